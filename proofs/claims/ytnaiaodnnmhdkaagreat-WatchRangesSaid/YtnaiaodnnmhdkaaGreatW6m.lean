/- A sky, a place, and an offer that looks at it, made of numbers. No conditions. -/
import Derived.Test.YtnaiaodnnmhdkaaGreatOffer
import Derived.Test.YtnaiaodnnmhdkaaGreatW6b
namespace Go.Proofs.YtnaiaodnnmhdkaaGreat
set_option linter.unusedVariables false
set_option linter.unusedSimpArgs false
open Go.RowKit Go.Shelf

theorem SkyIn.form {K : Nat → Prop} {w : World} {v : Value} {s : SkyD} (h : SkyIn K w v s) : ∃ (a : Option Addr) (n c : Nat) (sa : Option Addr) (sn sc : Nat) (ca : Option Addr) (cn cc : Nat), v = .agg #[.slice a n c, .int .i64 s.home, .slice sa sn sc, .slice ca cn cc] ∧ SkyL K w a n c sa sn sc ca cn cc s ∧ sn = s.stations.length ∧ cn = s.catalogs.length := by
  obtain ⟨vb, vs, vc, rfl, h1, h2, h3, h4⟩ := h
  obtain ⟨a, c, rfl, g1⟩ := h1
  obtain ⟨sa, sc, rfl, g2⟩ := h3
  obtain ⟨ca, cc, rfl, g3⟩ := h4
  exact ⟨a, _, c, sa, _, sc, ca, _, cc, rfl, ⟨⟨a, c, rfl, g1⟩, h2, ⟨sa, sc, rfl, g2⟩, ⟨ca, cc, rfl, g3⟩⟩, rfl, rfl⟩
theorem SkyL.more {K K' : Nat → Prop} {w : World} {a : Option Addr} {n c : Nat} {sa : Option Addr} {sn sc : Nat} {ca : Option Addr} {cn cc : Nat} {s : SkyD} (h : SkyL K w a n c sa sn sc ca cn cc s) (hK : ∀ b, K b → K' b) : SkyL K' w a n c sa sn sc ca cn cc s :=
  ⟨h.b.mono fun b _ hb => hK b hb, h.h, Lies.mono h.st (fun b _ hb => hK b hb) fun _ _ h => h, Lies.mono h.ca (fun b _ hb => hK b hb) fun _ _ h => h⟩
theorem offer_put {w U : World} {b m : Nat} {a : Option Addr} {n c : Nat} {sa : Option Addr} {sn sc : Nat} {ca : Option Addr} {cn cc : Nat} {s : SkyD} {c0 c1 : Array Value} {t0 t1 t2 : TypeId} {b0 b1 : Nat} {v0 v1 v2 v3 v4 v5 v6 v7 v8 v9 v10 a0 a1 a2 a3 a4 a5 a6 a7 a8 a9 a10 : Value} (hu : Up w U) (hw : w.heap.size ≤ b ∧ b0 ≠ b ∧ b1 ≠ b) (hL : SkyL (fun b => m ≤ b) U a n c sa sn sc ca cn cc s)
    (h0 : Box U b0 c0 t0) (h1 : Box U b1 c1 t1) (h2 : Box U b #[v0, v1, v2, v3, v4, v5, v6, v7, v8, v9, v10] t2) (hm : b < m) :
    (∃ p, (((((((((((U.setCell ⟨b, 0, none⟩ a0).setCell ⟨b, 1, none⟩ a1).setCell ⟨b, 2, none⟩ a2).setCell ⟨b, 3, none⟩ a3).setCell ⟨b, 4, none⟩ a4).setCell ⟨b, 5, none⟩ a5).setCell ⟨b, 6, none⟩ a6).setCell ⟨b, 7, none⟩ a7).setCell ⟨b, 8, none⟩ a8).setCell ⟨b, 9, none⟩ a9).setCell ⟨b, 10, none⟩ a10) = ext w p) ∧ SkyL (fun b => m ≤ b) (((((((((((U.setCell ⟨b, 0, none⟩ a0).setCell ⟨b, 1, none⟩ a1).setCell ⟨b, 2, none⟩ a2).setCell ⟨b, 3, none⟩ a3).setCell ⟨b, 4, none⟩ a4).setCell ⟨b, 5, none⟩ a5).setCell ⟨b, 6, none⟩ a6).setCell ⟨b, 7, none⟩ a7).setCell ⟨b, 8, none⟩ a8).setCell ⟨b, 9, none⟩ a9).setCell ⟨b, 10, none⟩ a10) a n c sa sn sc ca cn cc s ∧ Box (((((((((((U.setCell ⟨b, 0, none⟩ a0).setCell ⟨b, 1, none⟩ a1).setCell ⟨b, 2, none⟩ a2).setCell ⟨b, 3, none⟩ a3).setCell ⟨b, 4, none⟩ a4).setCell ⟨b, 5, none⟩ a5).setCell ⟨b, 6, none⟩ a6).setCell ⟨b, 7, none⟩ a7).setCell ⟨b, 8, none⟩ a8).setCell ⟨b, 9, none⟩ a9).setCell ⟨b, 10, none⟩ a10) b0 c0 t0 ∧ Box (((((((((((U.setCell ⟨b, 0, none⟩ a0).setCell ⟨b, 1, none⟩ a1).setCell ⟨b, 2, none⟩ a2).setCell ⟨b, 3, none⟩ a3).setCell ⟨b, 4, none⟩ a4).setCell ⟨b, 5, none⟩ a5).setCell ⟨b, 6, none⟩ a6).setCell ⟨b, 7, none⟩ a7).setCell ⟨b, 8, none⟩ a8).setCell ⟨b, 9, none⟩ a9).setCell ⟨b, 10, none⟩ a10) b1 c1 t1 ∧ Box (((((((((((U.setCell ⟨b, 0, none⟩ a0).setCell ⟨b, 1, none⟩ a1).setCell ⟨b, 2, none⟩ a2).setCell ⟨b, 3, none⟩ a3).setCell ⟨b, 4, none⟩ a4).setCell ⟨b, 5, none⟩ a5).setCell ⟨b, 6, none⟩ a6).setCell ⟨b, 7, none⟩ a7).setCell ⟨b, 8, none⟩ a8).setCell ⟨b, 9, none⟩ a9).setCell ⟨b, 10, none⟩ a10) b #[a0, a1, a2, a3, a4, a5, a6, a7, a8, a9, a10] t2 := by
  obtain ⟨hb, g0, g1⟩ := hw
  refine ⟨(((((((((((hu.setCell (q := ⟨b, 0, none⟩) hb _).setCell (q := ⟨b, 1, none⟩) hb _).setCell (q := ⟨b, 2, none⟩) hb _).setCell (q := ⟨b, 3, none⟩) hb _).setCell (q := ⟨b, 4, none⟩) hb _).setCell (q := ⟨b, 5, none⟩) hb _).setCell (q := ⟨b, 6, none⟩) hb _).setCell (q := ⟨b, 7, none⟩) hb _).setCell (q := ⟨b, 8, none⟩) hb _).setCell (q := ⟨b, 9, none⟩) hb _).setCell (q := ⟨b, 10, none⟩) hb _), hL.keeps ((((((((((((Keeps.refl (fun b => m ≤ b) _).set (Nat.not_le.2 hm) 0 _).set (Nat.not_le.2 hm) 1 _).set (Nat.not_le.2 hm) 2 _).set (Nat.not_le.2 hm) 3 _).set (Nat.not_le.2 hm) 4 _).set (Nat.not_le.2 hm) 5 _).set (Nat.not_le.2 hm) 6 _).set (Nat.not_le.2 hm) 7 _).set (Nat.not_le.2 hm) 8 _).set (Nat.not_le.2 hm) 9 _).set (Nat.not_le.2 hm) 10 _), (((((((((((h0.other g0 0 _).other g0 1 _).other g0 2 _).other g0 3 _).other g0 4 _).other g0 5 _).other g0 6 _).other g0 7 _).other g0 8 _).other g0 9 _).other g0 10 _), (((((((((((h1.other g1 0 _).other g1 1 _).other g1 2 _).other g1 3 _).other g1 4 _).other g1 5 _).other g1 6 _).other g1 7 _).other g1 8 _).other g1 9 _).other g1 10 _), ?_⟩
  simpa using (((((((((((h2.set 0 a0).set 1 a1).set 2 a2).set 3 a3).set 4 a4).set 5 a5).set 6 a6).set 7 a7).set 8 a8).set 9 a9).set 10 a10)
def Made6 (w : World) (e : Ending) (W : World) : Prop := ∃ (r : Value) (a : Option Addr) (n c : Nat) (sa : Option Addr) (sn sc : Nat) (ca : Option Addr) (cn cc : Nat) (s : SkyD) (px py : Int) (o : OffD) (p : Ext),
  e = .returned (.tuple #[r, .agg #[.slice a n c, .int .i64 s.home, .slice sa sn sc, .slice ca cn cc], .agg #[.int .i64 (px), .int .i64 (py)], .agg (offA o)]) ∧ SkyL (fun b => w.heap.size ≤ b) W a n c sa sn sc ca cn cc s ∧ ((-4000 ≤ px ∧ px ≤ 4000) ∧ -4000 ≤ py ∧ py ≤ 4000) ∧ (offE s o = 0 ∧ o.far ≤ 133300000) ∧ W = ext w p
set_option maxRecDepth 100000 in
set_option maxHeartbeats 8000000 in
theorem made6_any {w : World} {v0 : Value} (hN : Nums w v0) : Calls Tryz.prog 28 #[v0] w (Made6 w) := by
  obtain ⟨na, nn, nc, rfl⟩ := hN.form
  have HN := hide hN
  clear hN
  go_enter Tryz.func28, Tryz.ntmps28
  go_wp2_with fail
  go_at_call 39
  refine (newring_any _ _ _ _).mono ?_
  rintro _ _ ⟨rfl, rfl⟩
  go_wp2_with fail
  go_at_call 81
  refine forgetC (fun V => Up w V ∧ Box V (w.heap.size + 1 + 1 + 1) #[.slice na nn nc, .int .i64 0] 146 ∧ Box V w.heap.size #[.slice none 0 0, .int .i64 0, .slice none 0 0, .slice none 0 0] 28 ∧ Box V (w.heap.size + 1) #[.int .i64 (0), .int .i64 (0)] 30 ∧ Box V (w.heap.size + 1 + 1) #[.int .i64 0, .int .i64 0, .int .i64 0, .int .i64 0, .int .i64 0, .int .i64 0, .int .i64 0, .int .i64 0, .int .i64 0, .int .i64 0, .bool false] 32) ⟨(by repeat (first | with_reducible exact Up.refl _ | with_reducible apply Up.plus | apply Up.ext | apply Up.alloc | apply Up.drew | (refine Up.setCell ?_ (by simp; try omega) _))), (by repeat (first | exact Box.mk rfl | (refine Box.mk ?_; simp; done) | apply Box.ext | apply Box.drew | apply Box.alloc | apply Box.two1 | (refine Box.other ?_ (by omega) _ _))), (by repeat (first | exact Box.mk rfl | (refine Box.mk ?_; simp; done) | apply Box.ext | apply Box.drew | apply Box.alloc | apply Box.two1 | (refine Box.other ?_ (by omega) _ _))), (by repeat (first | exact Box.mk rfl | (refine Box.mk ?_; simp; done) | apply Box.ext | apply Box.drew | apply Box.alloc | apply Box.two1 | (refine Box.other ?_ (by omega) _ _))), (by repeat (first | exact Box.mk rfl | (refine Box.mk ?_; simp; done) | apply Box.ext | apply Box.drew | apply Box.alloc | apply Box.two1 | (refine Box.other ?_ (by omega) _ _)))⟩ ?_
  rintro V ⟨hu, hb, b0, b1, b2⟩
  have lR := hb.lt
  obtain ⟨Rg, hRg⟩ : ∃ r, (w.heap.size + 1 + 1 + 1) = r := ⟨_, rfl⟩
  rw [hRg] at hb lR
  rw [hRg]
  have hRw : w.heap.size + 1 + 1 < Rg := by omega
  have HU := hide (And.intro hu hb)
  have HB := hide (And.intro b0 (And.intro b1 b2))
  have hR0 := RingAt.start (n := 0) hb (by omega) (by omega)
  have HN4 := hide (pointof_k HN.out (B := Rg) (by omega) (n := 4000) (by omega) (by omega))
  have HN9 := hide (next_r HN.out (B := Rg) (by omega) (m := 9) (by omega) (by omega))
  refine (skyof_at HN.out (by omega) hu hb hR0 (by omega)).mono ?_
  rintro _ V1 ⟨_, s, rfl, hsky, hsm, hR1, hg1⟩
  obtain ⟨a, n, c, sa, sn, sc, ca, cn, cc, rfl, hL, hsn, hcn⟩ := hsky.form
  have hn1 : 0 < sn := by have := hsm.stn; omega
  have hn2 : 0 < cn := by have := hsm.can; omega
  have HV := hide (And.intro hsm.valid (And.intro hn1 hn2))
  have hB1 := hide (And.intro (HB.out.1.grown hg1 (by simp; omega)) (And.intro (HB.out.2.1.grown hg1 (by simp; omega)) (HB.out.2.2.grown hg1 (by simp; omega))))
  have HL1 := hide hL
  have HR1 := hide hR1
  clear hu hb b0 b1 b2 hR0 hsky hsm hg1 hL hR1 HB hRg hsn hcn
  go_wp2_with fail
  go_at_call 82
  refine (HN4.out.at HU.out.1 HU.out.2 (by omega) HR1.out (by omega)).mono ?_
  rintro _ V2 ⟨_, rfl, ⟨px, py, px0, px1, py0, py1, rfl⟩, hR2, hg2⟩
  have lV : V.heap.size ≤ V2.heap.size := hR2.size
  have HS2 := hide (show SkyL (fun b => V.heap.size ≤ b) V2 a n c sa sn sc ca cn cc s from HL1.out.keeps (Keeps.grown hg2 (fun b hb => by omega)))
  have HB2 := hide (And.intro (hB1.out.1.grown hg2 (by simp; omega)) (And.intro (hB1.out.2.1.grown hg2 (by simp; omega)) (hB1.out.2.2.grown hg2 (by simp; omega))))
  have HR2 := hide hR2
  clear hR2 hg2 HL1 hB1 HR1 HN4
  generalize hhome : s.home = home at *
  go_wp2_with fail
  obtain ⟨G, hG⟩ : ∃ G, V2.heap.size = G := ⟨_, rfl⟩
  rw [hG]
  refine forgetW (fun U => RingAt V Rg (0 + 60 + 2) U ∧ SkyL (fun b => V.heap.size ≤ b) U a n c sa sn sc ca cn cc s ∧ Box U G #[.slice a n c, .int .i64 home, .slice sa sn sc, .slice ca cn cc] 28 ∧ Box U (G + 1) #[.int .i64 (px), .int .i64 (py)] 30 ∧ Box U w.heap.size #[.slice none 0 0, .int .i64 0, .slice none 0 0, .slice none 0 0] 28 ∧ Box U (w.heap.size + 1) #[.int .i64 (0), .int .i64 (0)] 30 ∧ Box U (w.heap.size + 1 + 1) #[.int .i64 0, .int .i64 0, .int .i64 0, .int .i64 0, .int .i64 0, .int .i64 0, .int .i64 0, .int .i64 0, .int .i64 0, .int .i64 0, .bool false] 32) ⟨(HR2.out.alloc _).alloc _, HS2.out.up (((Up.refl _).alloc _).alloc _), by rw [← hG]; exact (by repeat (first | exact Box.mk rfl | (refine Box.mk ?_; simp; done) | apply Box.ext | apply Box.drew | apply Box.alloc | apply Box.two1 | (refine Box.other ?_ (by omega) _ _))), by rw [← hG]; exact (by repeat (first | exact Box.mk rfl | (refine Box.mk ?_; simp; done) | apply Box.ext | apply Box.drew | apply Box.alloc | apply Box.two1 | (refine Box.other ?_ (by omega) _ _))), (HB2.out.1.alloc _).alloc _, (HB2.out.2.1.alloc _).alloc _, (HB2.out.2.2.alloc _).alloc _⟩ ?_
  rintro U ⟨hR3, hS3, bg, bg1, z0, z1, z2⟩
  have lG : Rg < G := by omega
  have H3 := hide (And.intro hR3 (And.intro hS3 (And.intro bg (And.intro bg1 (And.intro z0 (And.intro z1 z2))))))
  have hS0 := hide (show Box U.drew G #[.slice a n c, .int .i64 home, .slice sa sn sc, .slice ca cn cc] 28 ∧ Box U.drew (G + 1) #[.int .i64 (px), .int .i64 (py)] 30 from ⟨bg.drew, bg1.drew⟩)
  clear hR3 hS3 bg bg1 z0 z1 z2 HR2 HS2 HB2 hG lV
  refine wp_region_L (fun W' => Box W' G #[.slice a n c, .int .i64 home, .slice sa sn sc, .slice ca cn cc] 28 ∧ Box W' (G + 1) #[.int .i64 (px), .int .i64 (py)] 30) 12 (by kernel_rfl) ?_
  refine anyL_take 0 (v := (.pointer (some ⟨Rg, 0, none⟩))) rfl (by kernel_rfl) (fun _ _ _ h => h) (.inl ⟨rfl, fun W' hW' => by simp [go_sem]⟩) hS0.out ?_
  simp only [Act.put, List.setIfInBounds_toArray, List.set_cons_zero, List.set_cons_succ]
  refine anyL_take 1 (v := (.agg #[.slice a n c, .int .i64 home, .slice sa sn sc, .slice ca cn cc])) rfl (by kernel_rfl) (fun _ _ _ h => h) (.inl ⟨rfl, fun W' hW' => by have e0 := Box.cell hW'.1 0 rfl; have e1 := Box.cell hW'.1 1 rfl; have e2 := Box.cell hW'.1 2 rfl; have e3 := Box.cell hW'.1 3 rfl; simp [go_sem, e0, e1, e2, e3]⟩) hS0.out ?_
  simp only [Act.put, List.setIfInBounds_toArray, List.set_cons_zero, List.set_cons_succ]
  refine anyL_take 2 (v := (.agg #[.int .i64 (px), .int .i64 (py)])) rfl (by kernel_rfl) (fun _ _ _ h => h) (.inl ⟨rfl, fun W' hW' => by have e0 := Box.cell hW'.2 0 rfl; have e1 := Box.cell hW'.2 1 rfl; simp [go_sem, e0, e1]⟩) hS0.out ?_
  simp only [Act.put, List.setIfInBounds_toArray, List.set_cons_zero, List.set_cons_succ]
  refine anyL_take 3 (v := (.pointer (some ⟨Rg, 0, none⟩))) rfl (by kernel_rfl) (fun _ _ _ h => h) (.inl ⟨rfl, fun W' hW' => by simp [go_sem]⟩) hS0.out ?_
  simp only [Act.put, List.setIfInBounds_toArray, List.set_cons_zero, List.set_cons_succ]
  refine anyL_take 4 (v := (.agg #[.slice a n c, .int .i64 home, .slice sa sn sc, .slice ca cn cc])) rfl (by kernel_rfl) (fun _ _ _ h => h) (.inl ⟨rfl, fun W' hW' => by have e0 := Box.cell hW'.1 0 rfl; have e1 := Box.cell hW'.1 1 rfl; have e2 := Box.cell hW'.1 2 rfl; have e3 := Box.cell hW'.1 3 rfl; simp [go_sem, e0, e1, e2, e3]⟩) hS0.out ?_
  simp only [Act.put, List.setIfInBounds_toArray, List.set_cons_zero, List.set_cons_succ]
  refine anyL_take 5 (v := (.pointer (some ⟨Rg, 0, none⟩))) rfl (by kernel_rfl) (fun _ _ _ h => h) (.inl ⟨rfl, fun W' hW' => by simp [go_sem]⟩) hS0.out ?_
  simp only [Act.put, List.setIfInBounds_toArray, List.set_cons_zero, List.set_cons_succ]
  refine anyL_take 7 (v := (.agg #[.int .i64 (px), .int .i64 (py)])) rfl (by kernel_rfl) (fun _ _ _ h => h) (.inl ⟨rfl, fun W' hW' => by have e0 := Box.cell hW'.2 0 rfl; have e1 := Box.cell hW'.2 1 rfl; simp [go_sem, e0, e1]⟩) hS0.out ?_
  simp only [Act.put, List.setIfInBounds_toArray, List.set_cons_zero, List.set_cons_succ]
  refine anyL_one (i := 6) (by kernel_rfl) rfl (fun K HK => ?_)
  go_wp2_with fail
  go_at_call 56
  refine (HN9.out.at HU.out.1 HU.out.2 (by omega) H3.out.1.drew (by omega)).mono ?_
  rintro _ U1 ⟨_, rfl, ⟨tk, tk0, tk1, rfl⟩, hR4, hg4⟩
  have hS1 := hide (And.intro (hS0.out.1.grown hg4 (by simp; omega)) (hS0.out.2.grown hg4 (by simp; omega)))
  have HL4 := hide (show SkyL (fun b => V.heap.size ≤ b) U1 a n c sa sn sc ca cn cc s from (H3.out.2.1.up (Up.refl _).drew).keeps (Keeps.grown hg4 (fun b hb => by omega)))
  have HZ4 := hide (And.intro (H3.out.2.2.2.2.1.drew.grown hg4 (by simp; omega)) (And.intro (H3.out.2.2.2.2.2.1.drew.grown hg4 (by simp; omega)) (H3.out.2.2.2.2.2.2.drew.grown hg4 (by simp; omega))))
  have HR4 := hide hR4
  clear hR4 hg4 hS0 H3 HN9
  go_wp2_with fail
  refine HK.out _ _ (fun _ => hS1.out) ?_
  clear HK
  refine anyL_one (i := 8) (by kernel_rfl) rfl (fun K HK => ?_)
  go_wp2_with fail
  go_at_call 83
  rw [← hhome]
  refine (offerof_at HN.out (B := Rg) (by omega) (K := fun b => V.heap.size ≤ b) (fun b hb => by omega) HV.out.1 HV.out.2.1 HV.out.2.2 (tick := tk) ⟨tk0, by omega⟩ (px := px) (py := py) ⟨⟨by omega, by omega⟩, by omega, by omega⟩ HU.out.1 HU.out.2 HR4.out HL4.out (by omega)).mono ?_
  rintro _ U2 ⟨_, rfl, ⟨o, hoe, hot, hof, rfl⟩, hR5, hg5⟩
  have hS2 := hide (And.intro (hS1.out.1.grown hg5 (by simp; omega)) (hS1.out.2.grown hg5 (by simp; omega)))
  have HL5 := hide (show SkyL (fun b => V.heap.size ≤ b) U2 a n c sa sn sc ca cn cc s from HL4.out.keeps (Keeps.grown hg5 (fun b hb => by omega)))
  have HZ5 := hide (And.intro (HZ4.out.1.grown hg5 (by simp; omega)) (And.intro (HZ4.out.2.1.grown hg5 (by simp; omega)) (HZ4.out.2.2.grown hg5 (by simp; omega))))
  have HR5 := hide hR5
  have HOE := hide (And.intro hoe hof)
  clear hR5 hg5 hS1 HL4 HZ4 HR4 hoe hot hof HV
  go_wp2_with fail
  refine HK.out _ _ (fun _ => hS2.out) ?_
  clear HK
  refine anyL_one (i := 9) (by kernel_rfl) rfl (fun K HK => ?_)
  go_wp2_with fail
  refine HK.out _ _ (fun _ => hS2.out) ?_
  clear HK
  have H5 := hide (And.intro (HR5.out.up HU.out.1 (by omega)) (And.intro HL5.out (And.intro hS2.out.1 (And.intro hS2.out.2 HZ5.out))))
  clear HR5 HL5 hS2 HZ5
  have x0 := H5.out.2.2.2.2.1.cell 0 rfl
  have x1 := H5.out.2.2.2.2.1.cell 1 rfl
  have x2 := H5.out.2.2.2.2.1.cell 2 rfl
  have x3 := H5.out.2.2.2.2.1.cell 3 rfl
  have fx0 := H5.out.2.2.2.2.1.frozen 0
  have fx1 := H5.out.2.2.2.2.1.frozen 1
  have fx2 := H5.out.2.2.2.2.1.frozen 2
  have fx3 := H5.out.2.2.2.2.1.frozen 3
  have lx := H5.out.2.2.2.2.1.lt
  refine anyL_one (i := 10) (by kernel_rfl) rfl (fun K HK => ?_)
  go_wp2_with fail
  refine HK.out _ _ (fun _ => ⟨((((H5.out.2.2.1.other (by omega) 0 _).other (by omega) 1 _).other (by omega) 2 _).other (by omega) 3 _), ((((H5.out.2.2.2.1.other (by omega) 0 _).other (by omega) 1 _).other (by omega) 2 _).other (by omega) 3 _)⟩) ?_
  clear HK
  refine forgetW (fun U => Up w U ∧ SkyL (fun b => V.heap.size ≤ b) U a n c sa sn sc ca cn cc s ∧ Box U G #[.slice a n c, .int .i64 home, .slice sa sn sc, .slice ca cn cc] 28 ∧ Box U (G + 1) #[.int .i64 (px), .int .i64 (py)] 30 ∧ Box U w.heap.size #[.slice a n c, .int .i64 home, .slice sa sn sc, .slice ca cn cc] 28 ∧ Box U (w.heap.size + 1) #[.int .i64 (0), .int .i64 (0)] 30 ∧ Box U (w.heap.size + 1 + 1) #[.int .i64 0, .int .i64 0, .int .i64 0, .int .i64 0, .int .i64 0, .int .i64 0, .int .i64 0, .int .i64 0, .int .i64 0, .int .i64 0, .bool false] 32) ⟨((((H5.out.1.setCell (q := ⟨w.heap.size, 0, none⟩) (by show w.heap.size ≤ w.heap.size; omega) _).setCell (q := ⟨w.heap.size, 1, none⟩) (by show w.heap.size ≤ w.heap.size; omega) _).setCell (q := ⟨w.heap.size, 2, none⟩) (by show w.heap.size ≤ w.heap.size; omega) _).setCell (q := ⟨w.heap.size, 3, none⟩) (by show w.heap.size ≤ w.heap.size; omega) _), H5.out.2.1.keeps (((((Keeps.refl (fun b => V.heap.size ≤ b) _).set (Nat.not_le.2 (by omega)) 0 _).set (Nat.not_le.2 (by omega)) 1 _).set (Nat.not_le.2 (by omega)) 2 _).set (Nat.not_le.2 (by omega)) 3 _), ((((H5.out.2.2.1.other (by omega) 0 _).other (by omega) 1 _).other (by omega) 2 _).other (by omega) 3 _), ((((H5.out.2.2.2.1.other (by omega) 0 _).other (by omega) 1 _).other (by omega) 2 _).other (by omega) 3 _), ((((H5.out.2.2.2.2.1.set 0 (.slice a n c)).set 1 (.int .i64 home)).set 2 (.slice sa sn sc)).set 3 (.slice ca cn cc)), ((((H5.out.2.2.2.2.2.1.other (by omega) 0 _).other (by omega) 1 _).other (by omega) 2 _).other (by omega) 3 _), ((((H5.out.2.2.2.2.2.2.other (by omega) 0 _).other (by omega) 1 _).other (by omega) 2 _).other (by omega) 3 _)⟩ ?_
  intro U3 hU3
  have H6 := hide hU3
  clear hU3
  clear x0 x1 x2 x3 fx0 fx1 fx2 fx3 lx
  have x0 := H6.out.2.2.2.2.2.1.cell 0 rfl
  have x1 := H6.out.2.2.2.2.2.1.cell 1 rfl
  have fx0 := H6.out.2.2.2.2.2.1.frozen 0
  have fx1 := H6.out.2.2.2.2.2.1.frozen 1
  have lx := H6.out.2.2.2.2.2.1.lt
  refine anyL_one (i := 11) (by kernel_rfl) rfl (fun K HK => ?_)
  go_wp2_with fail
  refine HK.out _ _ (fun _ => ⟨((H6.out.2.2.1.other (by omega) 0 _).other (by omega) 1 _), ((H6.out.2.2.2.1.other (by omega) 0 _).other (by omega) 1 _)⟩) ?_
  clear HK
  refine forgetW (fun U => Up w U ∧ SkyL (fun b => V.heap.size ≤ b) U a n c sa sn sc ca cn cc s ∧ Box U G #[.slice a n c, .int .i64 home, .slice sa sn sc, .slice ca cn cc] 28 ∧ Box U (G + 1) #[.int .i64 (px), .int .i64 (py)] 30 ∧ Box U w.heap.size #[.slice a n c, .int .i64 home, .slice sa sn sc, .slice ca cn cc] 28 ∧ Box U (w.heap.size + 1) #[.int .i64 (px), .int .i64 (py)] 30 ∧ Box U (w.heap.size + 1 + 1) #[.int .i64 0, .int .i64 0, .int .i64 0, .int .i64 0, .int .i64 0, .int .i64 0, .int .i64 0, .int .i64 0, .int .i64 0, .int .i64 0, .bool false] 32) ⟨((H6.out.1.setCell (q := ⟨(w.heap.size + 1), 0, none⟩) (by show w.heap.size ≤ (w.heap.size + 1); omega) _).setCell (q := ⟨(w.heap.size + 1), 1, none⟩) (by show w.heap.size ≤ (w.heap.size + 1); omega) _), H6.out.2.1.keeps (((Keeps.refl (fun b => V.heap.size ≤ b) _).set (Nat.not_le.2 (by omega)) 0 _).set (Nat.not_le.2 (by omega)) 1 _), ((H6.out.2.2.1.other (by omega) 0 _).other (by omega) 1 _), ((H6.out.2.2.2.1.other (by omega) 0 _).other (by omega) 1 _), ((H6.out.2.2.2.2.1.other (by omega) 0 _).other (by omega) 1 _), ((H6.out.2.2.2.2.2.1.set 0 (.int .i64 px)).set 1 (.int .i64 py)), ((H6.out.2.2.2.2.2.2.other (by omega) 0 _).other (by omega) 1 _)⟩ ?_
  intro U4 hU4
  have H7 := hide hU4
  clear hU4
  clear x0 x1 fx0 fx1 lx
  have x0 := H7.out.2.2.2.2.2.2.cell 0 rfl
  have x1 := H7.out.2.2.2.2.2.2.cell 1 rfl
  have x2 := H7.out.2.2.2.2.2.2.cell 2 rfl
  have x3 := H7.out.2.2.2.2.2.2.cell 3 rfl
  have x4 := H7.out.2.2.2.2.2.2.cell 4 rfl
  have x5 := H7.out.2.2.2.2.2.2.cell 5 rfl
  have x6 := H7.out.2.2.2.2.2.2.cell 6 rfl
  have x7 := H7.out.2.2.2.2.2.2.cell 7 rfl
  have x8 := H7.out.2.2.2.2.2.2.cell 8 rfl
  have x9 := H7.out.2.2.2.2.2.2.cell 9 rfl
  have x10 := H7.out.2.2.2.2.2.2.cell 10 rfl
  have fx0 := H7.out.2.2.2.2.2.2.frozen 0
  have fx1 := H7.out.2.2.2.2.2.2.frozen 1
  have fx2 := H7.out.2.2.2.2.2.2.frozen 2
  have fx3 := H7.out.2.2.2.2.2.2.frozen 3
  have fx4 := H7.out.2.2.2.2.2.2.frozen 4
  have fx5 := H7.out.2.2.2.2.2.2.frozen 5
  have fx6 := H7.out.2.2.2.2.2.2.frozen 6
  have fx7 := H7.out.2.2.2.2.2.2.frozen 7
  have fx8 := H7.out.2.2.2.2.2.2.frozen 8
  have fx9 := H7.out.2.2.2.2.2.2.frozen 9
  have fx10 := H7.out.2.2.2.2.2.2.frozen 10
  have lx := H7.out.2.2.2.2.2.2.lt
  refine anyL_one (i := 12) (by kernel_rfl) rfl (fun K HK => ?_)
  go_wp2_with fail
  refine HK.out _ _ (fun h => (h rfl).elim) ?_
  clear HK
  refine anyL_done (by kernel_rfl) ?_
  go_wp2_with fail
  refine forgetW (fun U => (∃ p, U = ext w p) ∧ SkyL (fun b => V.heap.size ≤ b) U a n c sa sn sc ca cn cc s ∧ Box U w.heap.size #[.slice a n c, .int .i64 home, .slice sa sn sc, .slice ca cn cc] 28 ∧ Box U (w.heap.size + 1) #[.int .i64 (px), .int .i64 (py)] 30 ∧ Box U (w.heap.size + 1 + 1) (offA o) 32) ?_ ?_
  · refine offer_put H7.out.1 (by omega) H7.out.2.1 H7.out.2.2.2.2.1 H7.out.2.2.2.2.2.1 H7.out.2.2.2.2.2.2 (by omega)
  rintro UF ⟨⟨p, hp⟩, hL, y0, y1, y2⟩
  clear x0 x1 x2 x3 x4 x5 x6 x7 x8 x9 x10 fx0 fx1 fx2 fx3 fx4 fx5 fx6 fx7 fx8 fx9 fx10 lx
  have c0 := y0.cell 0 rfl
  have c1 := y0.cell 1 rfl
  have c2 := y0.cell 2 rfl
  have c3 := y0.cell 3 rfl
  have d0 := y1.cell 0 rfl
  have d1 := y1.cell 1 rfl
  have e0 := y2.cell 0 rfl
  have e1 := y2.cell 1 rfl
  have e2 := y2.cell 2 rfl
  have e3 := y2.cell 3 rfl
  have e4 := y2.cell 4 rfl
  have e5 := y2.cell 5 rfl
  have e6 := y2.cell 6 rfl
  have e7 := y2.cell 7 rfl
  have e8 := y2.cell 8 rfl
  have e9 := y2.cell 9 rfl
  have e10 := y2.cell 10 rfl
  exact bodyPost_ret (v := .tuple #[.pointer (some ⟨Rg, 0, none⟩), .agg #[.slice a n c, .int .i64 home, .slice sa sn sc, .slice ca cn cc], .agg #[.int .i64 (px), .int .i64 (py)], .agg (offA o)]) (by simp [results, Tryz.results28, go_sem, c0, c1, c2, c3, d0, d1, e0, e1, e2, e3, e4, e5, e6, e7, e8, e9, e10]) rfl ⟨_, a, n, c, sa, sn, sc, ca, cn, cc, s, px, py, o, p, by rw [hhome], hL.more (fun b hb => by have := HU.out.1.below.size; omega), ⟨⟨by omega, by omega⟩, by omega, by omega⟩, HOE.out, hp⟩
end Go.Proofs.YtnaiaodnnmhdkaaGreat
