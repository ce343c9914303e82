/- Package force: twice the energy of a state. Conditions: what lies in memory. -/
import Derived.Test.YtbcgdhldkanecaaGreatForceI
import Derived.Test.YtbcgdhldkanecaaGreatForceM
namespace Go.Proofs.YtbcgdhldkanecaaGreat
set_option linter.unusedVariables false
set_option linter.unusedSimpArgs false
open Go.RowKit Go.Shelf

set_option maxRecDepth 100000 in
set_option maxHeartbeats 2000000 in
theorem fof_sl {K : Nat → Prop} {w : World} {a : Option Addr} {n c : Nat} {bs : List Bod} {home t : Int} {i : Nat} {b : Bod} (hl : Bods K w (.slice a n c) bs) (hh : I64 home) (hv : worldE bs home = 0) (hi : bs[i]? = some b) (t0 : 0 ≤ t) (t1 : t ≤ 1073741824) :
    ∃ (ta : Option Addr) (tn tc : Nat), ∀ W, Up w W → Gives Tryz.prog 40 #[.agg #[.slice a n c, .int .i64 home], .int .i64 i, .int .i64 t] W (.agg #[.int .i64 b.mu, .int .i64 b.radius, .slice ta tn tc, .int .i64 (placeV b t).1, .int .i64 (placeV b t).2]) := by
  have hn := (Bods.at hl).1
  have hm := (Bods.at hl).2.1
  have hil := (List.getElem?_eq_some_iff.1 hi).1
  obtain ⟨bb, o, p, ta, tn, tc, rfl, hKb, hbw, hp, hpp, hc0, hc1, hc2, ht⟩ := (Bods.at hl).2.2 i (by omega)
  rw [hi] at hp
  cases hp
  refine ⟨ta, tn, tc, fun W hu => ?_⟩
  have HA := hide (fun W' (hu' : Up W W') => skat_any (hl.keeps ((hu.trans hu').keeps K)) hh (i : Int) t)
  have hA : atW bs home (i : Int) t = placeV b t := by
    unfold atW
    rw [if_pos ⟨hv, by omega, by omega, by simp [withinB]; omega⟩]
    simp [List.getD, hi]
  rw [hA] at HA
  have g0 := (up_cell hu hbw (o := o + i * 3)).trans hc0
  have g1 := (up_cell hu hbw (o := o + i * 3 + 1)).trans hc1
  have g2 := (up_cell hu hbw (o := o + i * 3 + 2)).trans hc2
  have hbW : bb < W.heap.size := Nat.lt_of_lt_of_le hbw hu.below.size
  have j0 : (0 : Int) ≤ (i : Int) := by omega
  have j1 : (i : Int) < n := by omega
  generalize placeV b t = P at *
  clear hl hi hKb hpp hc0 hc1 hc2 ht hA hv hu hbw hil hn
  (unfold Gives; go_enter Tryz.func40, Tryz.ntmps40)
  go_wp2
  ((first | with_reducible refine wp_region_ext_tail2 1 (by kernel_rfl) (by kernel_rfl) ?_ | refine wp_region_ext_tail 1 (by kernel_rfl) (by kernel_rfl) ?_); simp only [List.length_cons, List.length_nil, Nat.reduceAdd, Nat.reduceSub, List.take_succ_cons, List.take_zero, List.drop_succ_cons, List.drop_zero]; (repeat (go_big_quiet_step ((go_at_call 72; with_reducible exact Gives.inRegion (HA.out _ (by repeat (first | with_reducible exact Up.refl _ | with_reducible apply Up.plus | apply Up.ext | apply Up.alloc | apply Up.drew | (refine Up.setCell ?_ (by simp; try omega) _)))))))); refine wpQuiet_nil ?_; intro _ hw'; obtain ⟨_, hw''⟩ := hw'; subst hw'')
  go_wp2
  all_goals (refine bodyPost_give (by repeat (first | with_reducible exact Up.refl _ | with_reducible apply Up.plus | apply Up.ext | apply Up.alloc | apply Up.drew | (refine Up.setCell ?_ (by simp; try omega) _))) rfl ⟨_, (by simp [results, Tryz.results40, go_sem]; rfl), ?_⟩)
  all_goals rfl

theorem forgetE {P : Program} {f : FuncId} {args : Array Value} {w : World} {R : Ending → World → Prop} (S : World → Prop) (hS : S w) (h : ∀ w', S w' → Calls P f args w' R) : Calls P f args w R := h w hS

def energyV (bs : List Bod) (home t x y u v : Int) : Sp × Int :=
  if askedE bs home (0, 0) (0, 0) 0 t (x, x, y, y) = 0 then (if withinB u (-1048576) 1048576 = true ∧ withinB v (-1048576) 1048576 = true then (energyP bs t (x, x, y, y) (u * u + v * v), 0) else ((0, 0), 2))
  else ((0, 0), askedE bs home (0, 0) (0, 0) 0 t (x, x, y, y))
/-- what one body takes -/
def takeP (t : Int) (a : Ar) (b : Bod) : Sp := quotP (b.mu, b.mu) (distP b.radius (toP (placeV b t) a))
theorem energyP_take (bs : List Bod) (t : Int) (a : Ar) (n : Int) : energyP bs t a n = bs.foldl (fun o b => subP o (addP (takeP t a b) (takeP t a b))) (n, n) := rfl
theorem limB_ord {a b : Int} (h : limB a b = true) (h1 : a ≤ b) : Ord 33554432 (a, b) := by
  simp [limB] at h
  exact ⟨h.1, h1, h.2⟩
theorem within_bd {n lo hi : Int} (h : withinB n lo hi = true) : lo ≤ n ∧ n ≤ hi := by simpa [withinB] using h
theorem take_check {q1 q2 q3 q4 : Int} (f1 : -1125899906842624 ≤ q1 ∧ q1 ≤ 1125899906842624) (f2 : -1125899906842624 ≤ q2 ∧ q2 ≤ 1125899906842624) (f3 : -1125899906842624 ≤ q3 ∧ q3 ≤ 1125899906842624) (f4 : -1125899906842624 ≤ q4 ∧ q4 ≤ 1125899906842624) (g1 : q1 ≤ -q3) : checkE (min q1 q2) (-min q3 q4) = 0 :=
  check_ok (by omega) (by omega) (by omega)
theorem take_ok {bs : List Bod} {home t : Int} {a : Ar} (he : askedE bs home (0, 0) (0, 0) 0 t a = 0) {b : Bod} (hb : b ∈ bs) : checkE (takeP t a b).1 (takeP t a b).2 = 0 := by
  obtain ⟨h1, _, _, h2, h3, h4⟩ := asked_zero he
  have hbd := bodyE_zero ((worldE_zero h1).2.2.1 _ hb)
  have hp := hbd.2.2.2.2 _ (placeV_mem hbd.2.2.1 t)
  have hv : checkE a.1 a.2.1 = 0 ∧ checkE a.2.2.1 a.2.2.2 = 0 := by
    unfold areaE at h2
    split at h2
    · rename_i hv; exact valid_zero hv
    · rename_i hv; exact absurd h2 hv
  have ha : OrdA 33554432 a := ⟨limB_ord h3 (check_zero hv.1).2.1, limB_ord h4 (check_zero hv.2).2.1⟩
  have ho := toP_ord (p := placeV b t) hp.1 hp.2 ha
  have hd := dist_bd (r := b.radius) hbd.2.1.1 hbd.2.1.2 ho
  unfold takeP
  rw [distP_val hbd.2.1.1 hbd.2.1.2 ho, quotP_val (n := (b.mu, b.mu)) ⟨by simp only; omega, by simp only; omega, by simp only; omega⟩ hd]
  have h0 := hbd.1
  have f1 := flo_in (p := b.mu) (c := isq (sqsL b.radius (toP (placeV b t) a))) (m := 1125899906842624) hd.1 (by omega) (by omega) (by omega)
  have hq : 0 < upq (sqsH b.radius (toP (placeV b t) a)) := by have := hd.1; have := hd.2.1; simp only at *; omega
  have f2 := flo_in (p := b.mu) (c := upq (sqsH b.radius (toP (placeV b t) a))) (m := 1125899906842624) hq (by omega) (by omega) (by omega)
  have f3 := flo_in (p := -b.mu) (c := isq (sqsL b.radius (toP (placeV b t) a))) (m := 1125899906842624) hd.1 (by omega) (by omega) (by omega)
  have f4 := flo_in (p := -b.mu) (c := upq (sqsH b.radius (toP (placeV b t) a))) (m := 1125899906842624) hq (by omega) (by omega) (by omega)
  have g1 : floQ b.mu (isq (sqsL b.radius (toP (placeV b t) a))) ≤ -floQ (-b.mu) (isq (sqsL b.radius (toP (placeV b t) a))) := cei_flo (by have := hd.1; simp only at this; omega)
  simp only at f1 f2 f3 f4 g1 ⊢
  generalize floQ b.mu (isq (sqsL b.radius (toP (placeV b t) a))) = q1 at *
  generalize floQ b.mu (upq (sqsH b.radius (toP (placeV b t) a))) = q2 at *
  generalize floQ (-b.mu) (isq (sqsL b.radius (toP (placeV b t) a))) = q3 at *
  generalize floQ (-b.mu) (upq (sqsH b.radius (toP (placeV b t) a))) = q4 at *
  exact take_check f1 f2 f3 f4 g1

set_option maxRecDepth 100000 in
set_option maxHeartbeats 4000000 in
theorem fEnergy_in {K : Nat → Prop} {w : World} {a : Option Addr} {n c : Nat} {bs : List Bod} {home : Int} (hl : Bods K w (.slice a n c) bs) (hh : I64 home) (t x y u v : Int) (he : askedE bs home (0, 0) (0, 0) 0 t (x, x, y, y) = 0)
    (hu0 : withinB u (-1048576) 1048576 = true) (hv0 : withinB v (-1048576) 1048576 = true) :
    Gives Tryz.prog 30 #[.agg #[.slice a n c, .int .i64 home], .int .i64 t, .agg #[.int .i64 (x), .int .i64 (y), .int .i64 (u), .int .i64 (v)]] w (.tuple #[.agg #[.int .i64 (energyP bs t (x, x, y, y) (u * u + v * v)).1, .int .i64 (energyP bs t (x, x, y, y) (u * u + v * v)).2], .int .i64 0]) := by
  obtain ⟨h1, _, ⟨t0, t1⟩, _⟩ := asked_zero he
  have hbd : (-1048576 ≤ u ∧ u ≤ 1048576) ∧ -1048576 ≤ v ∧ v ≤ 1048576 := ⟨within_bd hu0, within_bd hv0⟩
  have m1 := mul_bd (x := u) (y := u) (B := 1048576) (C := 1048576) hbd.1.1 hbd.1.2 hbd.1.1 hbd.1.2
  have m2 := mul_bd (x := v) (y := v) (B := 1048576) (C := 1048576) hbd.2.1 hbd.2.2 hbd.2.1 hbd.2.2
  have hn := (Bods.at hl).1
  have HA := hide (fun W (hu : Up w W) => fasked_any (hl.keeps (hu.keeps _)) hh (0, 0) (0, 0) 0 t x x y y)
  rw [he] at HA
  have HW1 := hide (fun W => fwithin_any u (-1048576) 1048576 W)
  have HW2 := hide (fun W => fwithin_any v (-1048576) 1048576 W)
  rw [hu0] at HW1
  rw [hv0] at HW2
  have HL := hide (And.intro hl (And.intro he h1))
  have hlen : n ≤ 8 := by rw [hn]; exact (worldE_zero h1).2.1
  have HN := hide hn
  have HM := hide (And.intro m1 m2)
  clear hl hu0 hv0 he h1 hbd hn m1 m2
  (unfold Gives; go_enter Tryz.func30, Tryz.ntmps30)
  go_wp2_with fail
  go_at_call 53
  refine (falone_any _ _ _).mono ?_
  intro p1
  go_wp2_with fail
  go_at_call 39
  refine (HA.out _ (by repeat (first | with_reducible exact Up.refl _ | with_reducible apply Up.plus | apply Up.ext | apply Up.alloc | apply Up.drew | (refine Up.setCell ?_ (by simp; try omega) _)))).mono ?_
  intro p2

  go_wp2_with fail
  go_at_call 45
  refine (HW1.out _).mono ?_
  intro p3
  obtain ⟨m1, m2⟩ := HM.out
  go_wp2_with (first | (go_at_call 45; (with_reducible refine (HW2.out _).mono ?_); intro _) | fail)
  go_at_call 57
  obtain ⟨A8, hA8⟩ : ∃ T, w.heap.size + 1 + 1 + 1 + p1.os.size = T := ⟨_, rfl⟩
  rw [hA8]
  obtain ⟨H, hH⟩ : ∃ H, w.heap.size = H := ⟨_, rfl⟩
  refine forgetE (fun W => Up w W ∧ Box W H #[.slice a n c, .int .i64 home] 24 ∧ Box W (H + 1 + 1) #[.int .i64 (0), .int .i64 (0)] 26 ∧ Box W A8 #[.int .i64 (x), .int .i64 (x), .int .i64 (y), .int .i64 (y)] 30) ⟨(by repeat (first | with_reducible exact Up.refl _ | with_reducible apply Up.plus | apply Up.ext | apply Up.alloc | apply Up.drew | (refine Up.setCell ?_ (by simp; try omega) _))), by rw [← hH]; exact (by repeat (first | exact Box.mk rfl | (refine Box.mk ?_; simp; done) | apply Box.ext | apply Box.drew | apply Box.alloc | apply Box.two1 | (refine Box.other ?_ (by omega) _ _))), by rw [← hH]; exact (by repeat (first | exact Box.mk rfl | (refine Box.mk ?_; simp; done) | apply Box.ext | apply Box.drew | apply Box.alloc | apply Box.two1 | (refine Box.other ?_ (by omega) _ _))), by rw [← hA8]; exact (by repeat (first | exact Box.mk rfl | (refine Box.mk ?_; simp; done) | apply Box.ext | apply Box.drew | apply Box.alloc | apply Box.two1 | (refine Box.other ?_ (by omega) _ _)))⟩ ?_
  rintro W2 ⟨hu2, bw, bz, ba⟩
  have hA8l : H + 1 + 1 < A8 := by omega
  rw [hH]
  clear hA8 HA HW1 HW2 m1 m2
  generalize hmm : u * u + v * v = m
  have hHl := hu2.below.size
  have cw0 := bw.cell 0 rfl
  have lw := bw.lt
  refine (fone_any _ _).mono ?_
  intro p4
  have HB2 := hide (And.intro hu2 (And.intro bw (And.intro bz ba)))
  clear hu2 bw bz ba
  go_wp2_with fail
  obtain ⟨T10, hT10⟩ : ∃ T, W2.heap.size + p4.os.size = T := ⟨_, rfl⟩
  try rw [hT10]
  refine forgetW (fun W => Up w W ∧ Box W H #[.slice a n c, .int .i64 home] 24 ∧ Box W (H + 1 + 1) #[.int .i64 (0), .int .i64 (0)] 26 ∧ Box W A8 #[.int .i64 (x), .int .i64 (x), .int .i64 (y), .int .i64 (y)] 30 ∧ Box W T10 #[.int .i64 (m), .int .i64 (m)] 26) ⟨(by repeat (first | with_reducible exact HB2.out.1 | with_reducible exact Up.refl _ | apply Up.ext | apply Up.alloc | apply Up.drew | (refine Up.setCell ?_ (by simp [World.setCell]; try omega) _))), (by repeat (first | with_reducible exact HB2.out.2.1 | apply Box.ext | apply Box.drew | apply Box.alloc | (refine Box.other ?_ (by simp; try omega) _ _))), (by repeat (first | with_reducible exact HB2.out.2.2.1 | apply Box.ext | apply Box.drew | apply Box.alloc | (refine Box.other ?_ (by simp; try omega) _ _))), (by repeat (first | with_reducible exact HB2.out.2.2.2 | apply Box.ext | apply Box.drew | apply Box.alloc | (refine Box.other ?_ (by simp; try omega) _ _))), by rw [← hT10]; exact (by repeat (first | exact Box.mk rfl | (refine Box.mk ?_; simp; done) | apply Box.ext | apply Box.drew | apply Box.alloc | apply Box.two1 | (refine Box.other ?_ (by omega) _ _)))⟩ ?_
  rintro W3 ⟨hu3, bw, bz, ba, bt⟩
  have hT8 : A8 < T10 := by have := HB2.out.2.2.2.lt; omega
  clear hT10 HB2 cw0 lw hHl
  have HB3 := hide (And.intro hu3 (And.intro bw (And.intro bz (And.intro ba bt))))
  clear hu3 bw bz ba bt
  go_loopw [57] (fun s wr => ∃ k : Nat, s = .int .i64 k ∧ k ≤ n ∧ Hid (Up w wr ∧ Box wr H #[.slice a n c, .int .i64 home] 24 ∧ Box wr (H + 1 + 1) #[.int .i64 (0), .int .i64 (0)] 26 ∧ Box wr A8 #[.int .i64 (x), .int .i64 (x), .int .i64 (y), .int .i64 (y)] 30 ∧
    Box wr T10 #[.int .i64 ((bs.take k).foldl (fun o b => subP o (addP (takeP t (x, x, y, y) b) (takeP t (x, x, y, y) b))) (m, m)).1, .int .i64 ((bs.take k).foldl (fun o b => subP o (addP (takeP t (x, x, y, y) b) (takeP t (x, x, y, y) b))) (m, m)).2] 26)) (fun s _ => n - (intOf s).toNat)
  case atStart => exact ⟨0, by go_num, by omega, HB3⟩
  case round =>
    obtain ⟨k, rfl, hk, hJ⟩ := hrel
    clear HB3
    by_cases hlt : k < n
    · have hkb : decide ((k : Int) < n) = true := by simp; omega
      obtain ⟨hu, bw, bz, ba, bt⟩ := hJ.out
      have hkl : k < bs.length := by rw [← HN.out]; exact hlt
      have hi : bs[k]? = some bs[k] := List.getElem?_eq_getElem hkl
      obtain ⟨ta, tn, tc, hof⟩ := fof_sl (HL.out.1.keeps (hu.keeps _)) hh HL.out.2.2 hi t0 t1
      have hbr := (bodyE_zero ((worldE_zero HL.out.2.2).2.2.1 _ (List.getElem_mem hkl))).2.1
      have hck := take_ok HL.out.2.1 (List.getElem_mem hkl)
      have hstep : (bs.take (k + 1)).foldl (fun o b => subP o (addP (takeP t (x, x, y, y) b) (takeP t (x, x, y, y) b))) (m, m) = subP ((bs.take k).foldl (fun o b => subP o (addP (takeP t (x, x, y, y) b) (takeP t (x, x, y, y) b))) (m, m)) (addP (takeP t (x, x, y, y) bs[k]) (takeP t (x, x, y, y) bs[k])) := by
        rw [List.take_add_one, hi, List.foldl_append]; rfl
      have HD := hide (fun W => fdist_any bs[k].mu bs[k].radius (.slice ta tn tc) (placeV bs[k] t) (x, x, y, y) hbr.1 hbr.2 W)
      have HOF := hide hof
      have HS := hide (And.intro hstep hck)
      have HQ := hide (fun W => fquot_any (bs[k].mu, bs[k].mu) (distP bs[k].radius (toP (placeV bs[k] t) (x, x, y, y))) W)
      have HT := hide (show quotP (bs[k].mu, bs[k].mu) (distP bs[k].radius (toP (placeV bs[k] t) (x, x, y, y))) = takeP t (x, x, y, y) bs[k] from rfl)
      rw [HT.out] at HQ
      clear hof hstep hck hbr hi HT
      generalize takeP t (x, x, y, y) bs[k] = X at HQ HS
      generalize sqP bs[k].radius (toP (placeV bs[k] t) (x, x, y, y)) = D1 at HD
      generalize distP bs[k].radius (toP (placeV bs[k] t) (x, x, y, y)) = D2 at HD HQ
      generalize placeV bs[k] t = P at HD HOF
      generalize bs[k] = b at HD HOF HQ
      generalize hok : (bs.take k).foldl (fun o b => subP o (addP (takeP t (x, x, y, y) b) (takeP t (x, x, y, y) b))) (m, m) = o at HS bt
      have cw0 := bw.cell 0 rfl
      have cw1 := bw.cell 1 rfl
      have lw := bw.lt
      have ca0 := ba.cell 0 rfl
      have ca1 := ba.cell 1 rfl
      have ca2 := ba.cell 2 rfl
      have ca3 := ba.cell 3 rfl
      have la := ba.lt
      have HR := hide (And.intro hu (And.intro bw (And.intro bz (And.intro ba bt))))
      clear hu bw bz ba bt hJ hok
      go_wp2_with fail
      go_at_call 40
      refine (HOF.out _ (by repeat (first | with_reducible exact Up.refl _ | with_reducible apply Up.plus | apply Up.ext | apply Up.alloc | apply Up.drew | (refine Up.setCell ?_ (by simp; try omega) _)))).mono ?_
      intro p5
      go_wp2_with fail
      go_at_call 58
      refine (HD.out _).mono ?_
      intro p6
      go_wp2_with fail
      obtain ⟨T12, hT12⟩ : ∃ T, wr.heap.size + p5.os.size = T := ⟨_, rfl⟩
      obtain ⟨T14, hT14⟩ : ∃ T, T12 + 1 + p6.os.size + 1 = T := ⟨_, rfl⟩
      rw [hT12, hT14]
      refine forgetW (fun W => Up w W ∧ Box W H #[.slice a n c, .int .i64 home] 24 ∧ Box W (H + 1 + 1) #[.int .i64 (0), .int .i64 (0)] 26 ∧ Box W A8 #[.int .i64 (x), .int .i64 (x), .int .i64 (y), .int .i64 (y)] 30 ∧ Box W T10 #[.int .i64 o.1, .int .i64 o.2] 26 ∧ Box W T12 #[.int .i64 b.mu, .int .i64 b.radius, .slice ta tn tc, .int .i64 P.1, .int .i64 P.2] 87 ∧ Box W T14 #[.int .i64 D2.1, .int .i64 D2.2] 26)
        ⟨(by repeat (first | with_reducible exact HR.out.1 | with_reducible exact Up.refl _ | apply Up.ext | apply Up.alloc | apply Up.drew | (refine Up.setCell ?_ (by simp [World.setCell]; try omega) _))), (by repeat (first | with_reducible exact HR.out.2.1 | apply Box.ext | apply Box.drew | apply Box.alloc | (refine Box.other ?_ (by simp; try omega) _ _))), (by repeat (first | with_reducible exact HR.out.2.2.1 | apply Box.ext | apply Box.drew | apply Box.alloc | (refine Box.other ?_ (by simp; try omega) _ _))), (by repeat (first | with_reducible exact HR.out.2.2.2.1 | apply Box.ext | apply Box.drew | apply Box.alloc | (refine Box.other ?_ (by simp; try omega) _ _))), (by repeat (first | with_reducible exact HR.out.2.2.2.2 | apply Box.ext | apply Box.drew | apply Box.alloc | (refine Box.other ?_ (by simp; try omega) _ _))), by rw [← hT12]; exact (by repeat (first | exact Box.mk rfl | (refine Box.mk ?_; simp; done) | apply Box.ext | apply Box.drew | apply Box.alloc | apply Box.two1 | (refine Box.other ?_ (by omega) _ _))), by rw [← hT14, ← hT12]; exact (by repeat (first | exact Box.mk rfl | (refine Box.mk ?_; simp; done) | apply Box.ext | apply Box.drew | apply Box.alloc | apply Box.two1 | (refine Box.other ?_ (by omega) _ _)))⟩ ?_
      rintro W5 ⟨hu, bw, bz, ba, bt, b12, b14⟩
      have hw5 : T10 < T12 := by have := HR.out.2.2.2.2.lt; omega
      have c12 := b12.cell 0 rfl
      have c140 := b14.cell 0 rfl
      have c141 := b14.cell 1 rfl
      have l12 := b12.lt
      have l14 := b14.lt
      have HR5 := hide (And.intro hu (And.intro bw (And.intro bz (And.intro ba bt))))
      clear hT12 hT14 HR hu bw bz ba bt b12 b14 cw0 cw1 lw ca0 ca1 ca2 ca3 la HOF HD
      refine wp_region_float (al := [(6, 15, #[.int .i64 (0), .int .i64 (0)], 26)]) (mv := fun _ => false) [7] [0, 1, 2, 3, 4, 5] (by kernel_rfl) (by kernel_rfl) (makes1 ⟨_, rfl, rfl, fun _ => rfl, fun _ _ => by simp [go_sem]⟩) (cls_ext _) (by first | exact drew_in2 _ _ | exact drew_in _) (Nat.le_refl _) ?_
      simp only [withOps, List.filterMap_cons, List.filterMap_nil, List.getElem?_toArray, List.getElem?_cons_zero, List.getElem?_cons_succ, Option.map_some]
      (repeat (first | (apply walkF_pure (base := fun p : Ext => ext _ p) rfl rfl rfl (by kernel_rfl); · (intro px K hK; go_big_quiet_op; first | exact hK | (apply Exists.intro; refine ⟨fun _ => ?_, ?_⟩; (· ((first | (go_at_call 57; with_reducible exact Gives.inFloat (fone_any _ _)) | (go_at_call 59; with_reducible exact Gives.inFloat (HQ.out _))))); exact hK))) | (apply walkF_skip rfl; simp only [Act.put, List.setIfInBounds_toArray, List.set_cons_zero, List.set_cons_succ])))
      refine walkF_nil (end1 (fun q U hq hU bq => ?_))
      simp only [Act.put, List.setIfInBounds_toArray, List.set_cons_zero, List.set_cons_succ]
      (try simp only [List.filterMap_cons, List.filterMap_nil, List.getElem?_toArray, List.getElem?_cons_zero, List.getElem?_cons_succ])
      have hUu : Up W5 U := hU
      have fq0 := bq.frozen 0
      have fq1 := bq.frozen 1
      have cq0 := bq.cell 0 rfl
      have cq1 := bq.cell 1 rfl
      have lq := bq.lt
      have HU := hide (And.intro hUu bq)
      have lWq : W5.heap.size ≤ q := hq
      clear hU hUu bq c12 c140 c141 l12 l14 HQ
      go_wp2_with fail
      refine forgetW (fun W => Up w W ∧ Box W H #[.slice a n c, .int .i64 home] 24 ∧ Box W (H + 1 + 1) #[.int .i64 (0), .int .i64 (0)] 26 ∧ Box W A8 #[.int .i64 (x), .int .i64 (x), .int .i64 (y), .int .i64 (y)] 30 ∧ Box W T10 #[.int .i64 o.1, .int .i64 o.2] 26 ∧ Box W q #[.int .i64 X.1, .int .i64 X.2] 26) ⟨?_, ?_, ?_, ?_, ?_, ?_⟩ ?_
      · have h6 := HR5.out.1.trans HU.out.1
        have h7 := HR5.out.1.below.size
        exact (by repeat (first | with_reducible exact h6 | with_reducible apply Up.ext | with_reducible apply Up.alloc | with_reducible apply Up.drew | (with_reducible refine Up.setCell ?_ (by simp only; omega) _)))
      · have h6 := HR5.out.2.1.up HU.out.1
        have h7 := HR5.out.2.1.lt
        exact (by repeat (first | with_reducible exact h6 | (with_reducible refine Box.other ?_ (by omega) _ _)))
      · have h6 := HR5.out.2.2.1.up HU.out.1
        have h7 := HR5.out.2.2.1.lt
        exact (by repeat (first | with_reducible exact h6 | (with_reducible refine Box.other ?_ (by omega) _ _)))
      · have h6 := HR5.out.2.2.2.1.up HU.out.1
        have h7 := HR5.out.2.2.2.1.lt
        exact (by repeat (first | with_reducible exact h6 | (with_reducible refine Box.other ?_ (by omega) _ _)))
      · have h6 := HR5.out.2.2.2.2.up HU.out.1
        have h7 := HR5.out.2.2.2.2.lt
        exact (by repeat (first | with_reducible exact h6 | (with_reducible refine Box.other ?_ (by omega) _ _)))
      · exact (HU.out.2.set 0 (.int .i64 X.1)).set 1 (.int .i64 X.2)
      rintro W6 ⟨hu, bw, bz, ba, bt, bx⟩
      have hqT : T10 < q := by have := HR5.out.2.2.2.2.lt; omega
      have HR6 := hide (And.intro hu (And.intro bw (And.intro bz (And.intro ba (And.intro bt bx)))))
      have HS0 := hide (And.intro bt.drew bx.drew)
      clear HR5 HU fq0 fq1 cq0 cq1 lq hu bw bz ba bt bx lWq
      refine wp_region_L (fun W' => Box W' T10 #[.int .i64 o.1, .int .i64 o.2] 26 ∧ Box W' q #[.int .i64 X.1, .int .i64 X.2] 26) 6 (by kernel_rfl) ?_
      refine anyL_take 0 (v := (.agg #[.int .i64 o.1, .int .i64 o.2])) rfl (by kernel_rfl) (fun _ _ _ h => h) (.inl ⟨rfl, fun W' hW' => by have e0 := Box.cell hW'.1 0 rfl; have e1 := Box.cell hW'.1 1 rfl; simp [go_sem, e0, e1]⟩) HS0.out ?_
      simp only [Act.put, List.setIfInBounds_toArray, List.set_cons_zero, List.set_cons_succ]
      refine anyL_take 1 (v := (.agg #[.int .i64 X.1, .int .i64 X.2])) rfl (by kernel_rfl) (fun _ _ _ h => h) (.inl ⟨rfl, fun W' hW' => by have e0 := Box.cell hW'.2 0 rfl; have e1 := Box.cell hW'.2 1 rfl; simp [go_sem, e0, e1]⟩) HS0.out ?_
      simp only [Act.put, List.setIfInBounds_toArray, List.set_cons_zero, List.set_cons_succ]
      refine anyL_take 2 (v := (.agg #[.int .i64 X.1, .int .i64 X.2])) rfl (by kernel_rfl) (fun _ _ _ h => h) (.inl ⟨rfl, fun W' hW' => by have e0 := Box.cell hW'.2 0 rfl; have e1 := Box.cell hW'.2 1 rfl; simp [go_sem, e0, e1]⟩) HS0.out ?_
      simp only [Act.put, List.setIfInBounds_toArray, List.set_cons_zero, List.set_cons_succ]
      refine anyL_one (i := 3) (by kernel_rfl) rfl (fun K HK => ?_)
      go_wp2_with fail
      refine HK.out _ _ (fun _ => ⟨(by repeat (first | with_reducible exact HR6.out.2.2.2.2.1 | apply Box.ext | apply Box.drew | apply Box.alloc | (refine Box.other ?_ (by simp; try omega) _ _))), (by repeat (first | with_reducible exact HR6.out.2.2.2.2.2 | apply Box.ext | apply Box.drew | apply Box.alloc | (refine Box.other ?_ (by simp; try omega) _ _)))⟩) ?_
      clear HK
      refine anyL_one (i := 4) (by kernel_rfl) rfl (fun K HK => ?_)
      go_wp2_with fail
      go_at_call 61
      refine (fadd2 X X HS.out.2 (T := 26) (by first | exact (Box.mk rfl).drew | exact Box.mk rfl)).mono ?_
      intro p8
      go_wp2_with fail
      refine HK.out _ _ (fun _ => ⟨(by repeat (first | with_reducible exact HR6.out.2.2.2.2.1 | apply Box.ext | apply Box.drew | apply Box.alloc | (refine Box.other ?_ (by simp; try omega) _ _))), (by repeat (first | with_reducible exact HR6.out.2.2.2.2.2 | apply Box.ext | apply Box.drew | apply Box.alloc | (refine Box.other ?_ (by simp; try omega) _ _)))⟩) ?_
      clear HK
      have HF := hide (fun W => fsub_any o (addP X X) W)
      have hst := HS.out.1
      generalize addP X X = X2 at HF hst
      refine anyL_one (i := 5) (by kernel_rfl) rfl (fun K HK => ?_)
      go_wp2_with fail
      go_at_call 60
      refine (HF.out _).mono ?_
      intro p9
      go_wp2_with fail
      refine HK.out _ _ (fun _ => ⟨(by repeat (first | with_reducible exact HR6.out.2.2.2.2.1 | apply Box.ext | apply Box.drew | apply Box.alloc | (refine Box.other ?_ (by simp; try omega) _ _))), (by repeat (first | with_reducible exact HR6.out.2.2.2.2.2 | apply Box.ext | apply Box.drew | apply Box.alloc | (refine Box.other ?_ (by simp; try omega) _ _)))⟩) ?_
      clear HK
      obtain ⟨o2, ho2⟩ : ∃ o2, subP o X2 = o2 := ⟨_, rfl⟩
      rw [ho2] at hst ⊢
      refine forgetW (fun W => Up w W ∧ Box W H #[.slice a n c, .int .i64 home] 24 ∧ Box W (H + 1 + 1) #[.int .i64 (0), .int .i64 (0)] 26 ∧ Box W A8 #[.int .i64 (x), .int .i64 (x), .int .i64 (y), .int .i64 (y)] 30 ∧ Box W T10 #[.int .i64 o.1, .int .i64 o.2] 26) ⟨(by repeat (first | with_reducible exact HR6.out.1 | with_reducible exact Up.refl _ | apply Up.ext | apply Up.alloc | apply Up.drew | (refine Up.setCell ?_ (by simp [World.setCell]; try omega) _))), (by repeat (first | with_reducible exact HR6.out.2.1 | apply Box.ext | apply Box.drew | apply Box.alloc | (refine Box.other ?_ (by simp; try omega) _ _))), (by repeat (first | with_reducible exact HR6.out.2.2.1 | apply Box.ext | apply Box.drew | apply Box.alloc | (refine Box.other ?_ (by simp; try omega) _ _))), (by repeat (first | with_reducible exact HR6.out.2.2.2.1 | apply Box.ext | apply Box.drew | apply Box.alloc | (refine Box.other ?_ (by simp; try omega) _ _))), (by repeat (first | with_reducible exact HR6.out.2.2.2.2.1 | apply Box.ext | apply Box.drew | apply Box.alloc | (refine Box.other ?_ (by simp; try omega) _ _)))⟩ ?_
      rintro W7 ⟨hu, bw, bz, ba, bt⟩
      have t0' := bt.cell 0 rfl
      have t1' := bt.cell 1 rfl
      have ft0 := bt.frozen 0
      have ft1 := bt.frozen 1
      have lt7 := bt.lt
      have HN7 := hide (show Up w ((W7.setCell ⟨T10, 0, none⟩ (.int .i64 o2.1)).setCell ⟨T10, 1, none⟩ (.int .i64 o2.2)) ∧ Box ((W7.setCell ⟨T10, 0, none⟩ (.int .i64 o2.1)).setCell ⟨T10, 1, none⟩ (.int .i64 o2.2)) H #[.slice a n c, .int .i64 home] 24 ∧ Box ((W7.setCell ⟨T10, 0, none⟩ (.int .i64 o2.1)).setCell ⟨T10, 1, none⟩ (.int .i64 o2.2)) (H + 1 + 1) #[.int .i64 (0), .int .i64 (0)] 26 ∧ Box ((W7.setCell ⟨T10, 0, none⟩ (.int .i64 o2.1)).setCell ⟨T10, 1, none⟩ (.int .i64 o2.2)) A8 #[.int .i64 (x), .int .i64 (x), .int .i64 (y), .int .i64 (y)] 30 ∧ Box ((W7.setCell ⟨T10, 0, none⟩ (.int .i64 o2.1)).setCell ⟨T10, 1, none⟩ (.int .i64 o2.2)) T10 #[.int .i64 o2.1, .int .i64 o2.2] 26 from
        ⟨(hu.setCell (by simp only; omega) _).setCell (by simp only; omega) _, (bw.other (by omega) _ _).other (by omega) _ _, (bz.other (by omega) _ _).other (by omega) _ _, (ba.other (by omega) _ _).other (by omega) _ _, (bt.set 0 (.int .i64 o2.1)).set 1 (.int .i64 o2.2)⟩)
      clear hu bw bz ba bt HR6 HS0 HF
      refine anyL_one (i := 6) (by kernel_rfl) rfl (fun K HK => ?_)
      go_wp2_with fail
      refine HK.out _ _ (fun h => (h rfl).elim) ?_
      clear HK
      refine anyL_done (by kernel_rfl) ?_
      clear t0' t1' ft0 ft1
      go_wp2_with fail
      go_roundw
      case rel => exact ⟨k + 1, by go_num, by omega, hide (by rw [hst]; exact HN7.out)⟩
      case measure => simp [intOf]; omega
    · have hkb : decide ((k : Int) < n) = false := by simp; omega
      have hke : bs.take k = bs := by rw [List.take_of_length_le]; rw [← HN.out]; omega
      obtain ⟨hu, bw, bz, ba, bt⟩ := hJ.out
      rw [hke] at bt
      have he := energyP_take bs t (x, x, y, y) m
      rw [← he] at bt
      obtain ⟨E, hE⟩ : ∃ E, energyP bs t (x, x, y, y) m = E := ⟨_, rfl⟩
      rw [hE] at bt
      have HE := hide (show energyP bs t (x, x, y, y) (u * u + v * v) = E by rw [hmm]; exact hE)
      have e0 := bt.cell 0 rfl
      have e1 := bt.cell 1 rfl
      have le := bt.lt
      have z0 := bz.cell 0 rfl
      have z1 := bz.cell 1 rfl
      have fz0 := bz.frozen 0
      have fz1 := bz.frozen 1
      have lz := bz.lt
      have hz := (bz.set 0 (.int .i64 E.1)).set 1 (.int .i64 E.2)
      have y0 := hz.cell 0 rfl
      have y1 := hz.cell 1 rfl
      have HY := hide (And.intro y0 (And.intro y1 hu))
      clear hu bw bz ba bt hz y0 y1 he hJ hke hE
      go_wp2_with fail
      refine bodyPost_give ?_ rfl ⟨_, (by simp [results, Tryz.results30, go_sem, HY.out.1, HY.out.2.1]; rfl), by rw [HE.out]⟩
      exact (HY.out.2.2.setCell (by simp only; omega) _).setCell (by simp only; omega) _

set_option maxRecDepth 100000 in
set_option maxHeartbeats 2000000 in
theorem fEnergy_any {K : Nat → Prop} {w : World} {a : Option Addr} {n c : Nat} {bs : List Bod} {home : Int} (hl : Bods K w (.slice a n c) bs) (hh : I64 home) (t x y u v : Int) :
    Gives Tryz.prog 30 #[.agg #[.slice a n c, .int .i64 home], .int .i64 t, .agg #[.int .i64 (x), .int .i64 (y), .int .i64 (u), .int .i64 (v)]] w (.tuple #[.agg #[.int .i64 (energyV bs home t x y u v).1.1, .int .i64 (energyV bs home t x y u v).1.2], .int .i64 (energyV bs home t x y u v).2]) := by
  unfold energyV
  by_cases he : askedE bs home (0, 0) (0, 0) 0 t (x, x, y, y) = 0
  · rw [if_pos he]
    by_cases hw : withinB u (-1048576) 1048576 = true ∧ withinB v (-1048576) 1048576 = true
    · rw [if_pos hw]
      exact fEnergy_in hl hh t x y u v he hw.1 hw.2
    · rw [if_neg hw]
      have HA := hide (fun W (hu : Up w W) => fasked_any (hl.keeps (hu.keeps _)) hh (0, 0) (0, 0) 0 t x x y y)
      rw [he] at HA
      have HW1 := hide (fun W => fwithin_any u (-1048576) 1048576 W)
      have HW2 := hide (fun W => fwithin_any v (-1048576) 1048576 W)
      generalize withinB u (-1048576) 1048576 = U at *
      generalize withinB v (-1048576) 1048576 = V at *
      clear hl he
      cases U <;> cases V <;> (try exact absurd ⟨rfl, rfl⟩ hw) <;> clear hw <;> (
        (unfold Gives; go_enter Tryz.func30, Tryz.ntmps30)
        go_wp2_with (first | (go_at_call 53; refine (falone_any _ _ _).mono ?_; intro _) | (go_at_call 39; refine (HA.out _ (by repeat (first | with_reducible exact Up.refl _ | with_reducible apply Up.plus | apply Up.ext | apply Up.alloc | apply Up.drew | (refine Up.setCell ?_ (by simp; try omega) _)))).mono ?_; intro _) | (go_at_call 45; (with_reducible refine (HW1.out _).mono ?_); intro _) | (go_at_call 45; (with_reducible refine (HW2.out _).mono ?_); intro _))
        (refine bodyPost_give (by repeat (first | with_reducible exact Up.refl _ | with_reducible apply Up.plus | apply Up.ext | apply Up.alloc | apply Up.drew | (refine Up.setCell ?_ (by simp; try omega) _))) rfl ⟨_, (by simp [results, Tryz.results30, go_sem]; rfl), ?_⟩)
        rfl)
  · rw [if_neg he]
    have HA := hide (fun W (hu : Up w W) => fasked_any (hl.keeps (hu.keeps _)) hh (0, 0) (0, 0) 0 t x x y y)
    have heb : (askedE bs home (0, 0) (0, 0) 0 t (x, x, y, y) != 0) = true := by simp [he]
    generalize askedE bs home (0, 0) (0, 0) 0 t (x, x, y, y) = E at *
    clear hl he
    (unfold Gives; go_enter Tryz.func30, Tryz.ntmps30)
    go_wp2_with (first | (go_at_call 53; refine (falone_any _ _ _).mono ?_; intro _) | (go_at_call 39; refine (HA.out _ (by repeat (first | with_reducible exact Up.refl _ | with_reducible apply Up.plus | apply Up.ext | apply Up.alloc | apply Up.drew | (refine Up.setCell ?_ (by simp; try omega) _)))).mono ?_; intro _))
    (refine bodyPost_give (by repeat (first | with_reducible exact Up.refl _ | with_reducible apply Up.plus | apply Up.ext | apply Up.alloc | apply Up.drew | (refine Up.setCell ?_ (by simp; try omega) _))) rfl ⟨_, (by simp [results, Tryz.results30, go_sem]; rfl), ?_⟩)
    rfl
end Go.Proofs.YtbcgdhldkanecaaGreat
