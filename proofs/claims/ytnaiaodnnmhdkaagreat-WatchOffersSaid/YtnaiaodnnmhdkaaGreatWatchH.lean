/- Package watch: an offer by its kind. Conditions: the offer is valid; what lies in memory. -/
import Derived.Test.YtnaiaodnnmhdkaaGreatWatchG
namespace Go.Proofs.YtnaiaodnnmhdkaaGreat
set_option linter.unusedVariables false
set_option linter.unusedSimpArgs false
open Go.RowKit Go.Shelf

/-- a kind as the program holds it -/
def kndV (k : KndD) : Value := if k.sc = true then .iface 188 (.agg (scopeA k)) else .iface 185 (.agg (postA k))
theorem wof1_any (p : Int × Int × Int) (o : OffD) {b : Nat} {w : World} (hb : Box w b (offA o) 32) : Gives Tryz.prog 115 (#[.agg #[.int .i64 p.1, .int .i64 p.2.1, .int .i64 p.2.2]] ++ #[.pointer (some ⟨b, 0, none⟩)]) w (.bool (p.1 == o.catalog)) := by
  have c0 := hb.cell 2 rfl
  have lb := hb.lt
  show Gives Tryz.prog 115 #[.agg #[.int .i64 p.1, .int .i64 p.2.1, .int .i64 p.2.2], .pointer (some ⟨b, 0, none⟩)] w (.bool (p.1 == o.catalog))
  clear hb
  (unfold Gives; go_enter Tryz.func115, Tryz.ntmps115)
  go_wp2
  go_ret
  exact ⟨rfl, (by repeat (first | with_reducible exact Up.refl _ | with_reducible apply Up.plus | apply Up.ext | apply Up.alloc | apply Up.drew | (refine Up.setCell ?_ (by simp; try omega) _)))⟩
set_option maxRecDepth 100000 in
set_option maxHeartbeats 4000000 in
theorem wof_any {K : Nat → Prop} {w : World} {a sa ca : Option Addr} {n c sn sc cn cc : Nat} {s : SkyD} (hb : Bods K w (.slice a n c) s.bodies) (hh : I64 s.home) (hs : Tris K w (.slice sa sn sc) s.stations) (hc : Tris K w (.slice ca cn cc) s.catalogs) {o : OffD} (he : offE s o = 0) :
    Gives Tryz.prog 58 #[.agg #[.slice a n c, .int .i64 s.home, .slice sa sn sc, .slice ca cn cc], .agg (offA o)] w (kndV (kndOf s o)) := by
  have HWH := hide (fun W (hu : Up w W) => skwhere_any (hb.keeps (hu.keeps K)) hh (hs.keeps (hu.keeps K)) (hc.keeps (hu.keeps K)) o.station o.tick)
  obtain ⟨hsk, hk, _, _, _, _, _, hrest⟩ := offE_zero he
  unfold kndV kndOf
  by_cases h2 : o.kind = 2
  · rw [if_pos h2, if_neg (by simp)]
    generalize whereV s o.station o.tick = P at *
    obtain ⟨P1, P2, P3⟩ := P
    obtain ⟨kd, st, ct, tk, dx, dy, er, fr, wd, co, su⟩ := o
    dsimp only at h2 HWH ⊢
    subst h2
    generalize s.home = home at *
    clear hb hs hc he hk hsk hrest
    (unfold Gives; go_enter Tryz.func58, Tryz.ntmps58)
    go_wp2_with fail
    go_at_call 113
    refine forgetK (fun V => Up w V ∧ Box V (w.heap.size + 1) #[.int .i64 2, .int .i64 st, .int .i64 ct, .int .i64 tk, .int .i64 dx, .int .i64 dy, .int .i64 er, .int .i64 fr, .int .i64 wd, .int .i64 co, .bool su] 32) ⟨(by repeat (first | with_reducible exact Up.refl _ | with_reducible apply Up.plus | apply Up.ext | apply Up.alloc | apply Up.drew | (refine Up.setCell ?_ (by simp; try omega) _))), (by repeat (first | exact Box.mk rfl | (refine Box.mk ?_; simp; done) | apply Box.ext | apply Box.drew | apply Box.alloc | apply Box.two1 | (refine Box.other ?_ (by omega) _ _)))⟩ ?_
    rintro V ⟨hu, hx⟩
    refine (HWH.out V hu).mono ?_
    intro p1
    have y0 := hx.cell 0 rfl
    have y1 := hx.cell 1 rfl
    have y2 := hx.cell 2 rfl
    have y3 := hx.cell 3 rfl
    have y4 := hx.cell 4 rfl
    have y5 := hx.cell 5 rfl
    have y6 := hx.cell 6 rfl
    have y7 := hx.cell 7 rfl
    have y8 := hx.cell 8 rfl
    have y9 := hx.cell 9 rfl
    have y10 := hx.cell 10 rfl
    have ly := hx.lt
    have HB := hide hu
    clear hu hx
    go_wp2
    go_ret
    exact ⟨rfl, (by repeat (first | with_reducible exact HB.out | with_reducible exact Up.refl _ | apply Up.ext | apply Up.alloc | apply Up.drew | (refine Up.setCell ?_ (by simp [World.setCell]; try omega) _)))⟩
  · obtain ⟨hcat, _⟩ := hrest h2
    obtain ⟨x, hx, _, hbias, _⟩ := bias_ok hsk hcat
    obtain ⟨j, hj, hxj⟩ := firstI_some hx
    have HI := hide (fun W (hu : Up w W) (hq : Box W (w.heap.size + 1) (offA o) 32) => ixcat_any 115 #[.pointer (some ⟨w.heap.size + 1, 0, none⟩)] (enters_of Tryz.func115 (by kernel_rfl) rfl) (fun x => x.1 == o.catalog) (hc.keeps (hu.keeps K)) (fun p W2 _ hu2 => wof1_any p o (hq.up hu2)))
    rw [hj] at HI
    have hcn := (Tris.at hc).1
    have hjn : j < cn := by have := (List.getElem?_eq_some_iff.1 hxj).1; omega
    obtain ⟨b0, o0, p, ea, _, hb0, hp, hpi, d0, d1, d2⟩ := (Tris.at hc).2.2 j hjn
    rw [hxj] at hp
    cases hp
    subst ea
    have hkd : o.kind = 1 := by omega
    rw [if_neg h2, if_pos rfl, hbias]
    generalize whereV s o.station o.tick = P at *
    obtain ⟨P1, P2, P3⟩ := P
    obtain ⟨x0, x1, x2⟩ := x
    obtain ⟨kd, st, ct, tk, dx, dy, er, fr, wd, co, su⟩ := o
    dsimp only at h2 hkd HWH HI d0 d1 d2 ⊢
    subst hkd
    generalize s.home = home at *
    have HP := hide (And.intro hb0 (And.intro d1 d2))
    have hjb : decide ((j : Int) < 0) = false := by simp
    clear hb hs hc he hk hsk hrest hcat hx hbias hj hxj hcn hpi d0 d1 d2 h2
    (unfold Gives; go_enter Tryz.func58, Tryz.ntmps58)
    go_wp2_with fail
    go_at_call 113
    refine forgetK (fun V => Up w V ∧ Box V w.heap.size #[.slice a n c, .int .i64 home, .slice sa sn sc, .slice (some ⟨b0, o0, none⟩) cn cc] 28 ∧ Box V (w.heap.size + 1) #[.int .i64 1, .int .i64 st, .int .i64 ct, .int .i64 tk, .int .i64 dx, .int .i64 dy, .int .i64 er, .int .i64 fr, .int .i64 wd, .int .i64 co, .bool su] 32) ⟨(by repeat (first | with_reducible exact Up.refl _ | with_reducible apply Up.plus | apply Up.ext | apply Up.alloc | apply Up.drew | (refine Up.setCell ?_ (by simp; try omega) _))), (by repeat (first | exact Box.mk rfl | (refine Box.mk ?_; simp; done) | apply Box.ext | apply Box.drew | apply Box.alloc | apply Box.two1 | (refine Box.other ?_ (by omega) _ _))), (by repeat (first | exact Box.mk rfl | (refine Box.mk ?_; simp; done) | apply Box.ext | apply Box.drew | apply Box.alloc | apply Box.two1 | (refine Box.other ?_ (by omega) _ _)))⟩ ?_
    rintro V ⟨hu, hy, hx⟩
    refine (HWH.out V hu).mono ?_
    intro p1
    have y0 := hx.cell 0 rfl
    have y1 := hx.cell 1 rfl
    have y2 := hx.cell 2 rfl
    have y3 := hx.cell 3 rfl
    have y4 := hx.cell 4 rfl
    have y5 := hx.cell 5 rfl
    have y6 := hx.cell 6 rfl
    have y7 := hx.cell 7 rfl
    have y8 := hx.cell 8 rfl
    have y9 := hx.cell 9 rfl
    have y10 := hx.cell 10 rfl
    have ly := hx.lt
    have HB := hide (And.intro hu (And.intro hy hx))
    have s2 := hy.cell 3 rfl
    have ls := hy.lt
    clear hu hx hy
    go_wp2_with fail
    go_at_call 114
    obtain ⟨Q7, hQ7⟩ : ∃ T, V.heap.size + p1.os.size + 1 = T := ⟨_, rfl⟩
    try rw [hQ7]
    refine forgetK (fun Y => Up w Y ∧ Box Y w.heap.size #[.slice a n c, .int .i64 home, .slice sa sn sc, .slice (some ⟨b0, o0, none⟩) cn cc] 28 ∧ Box Y (w.heap.size + 1) #[.int .i64 1, .int .i64 st, .int .i64 ct, .int .i64 tk, .int .i64 dx, .int .i64 dy, .int .i64 er, .int .i64 fr, .int .i64 wd, .int .i64 co, .bool su] 32 ∧ Box Y Q7 #[.int .i64 (P1), .int .i64 (P2), .int .i64 (fr), .int .i64 (er)] 183) ⟨(by repeat (first | with_reducible exact HB.out.1 | with_reducible apply Up.ext | with_reducible apply Up.alloc | with_reducible apply Up.drew | (with_reducible refine Up.setCell ?_ (by simp only; omega) _))), (by repeat (first | with_reducible exact HB.out.2.1 | with_reducible apply Box.ext | with_reducible apply Box.alloc | with_reducible apply Box.drew | (with_reducible refine Box.other ?_ (by omega) _ _))), (by repeat (first | with_reducible exact HB.out.2.2 | with_reducible apply Box.ext | with_reducible apply Box.alloc | with_reducible apply Box.drew | (with_reducible refine Box.other ?_ (by omega) _ _))), by rw [← hQ7]; exact (by repeat (first | exact Box.mk rfl | (refine Box.mk ?_; simp; done) | apply Box.ext | apply Box.drew | apply Box.alloc | apply Box.two1 | (refine Box.other ?_ (by omega) _ _)))⟩ ?_
    rintro Y ⟨hu, hy, hx, hq⟩
    clear hQ7 HB s2 ls y0 y1 y2 y3 y4 y5 y6 y7 y8 y9 y10 ly
    refine (HI.out Y hu hx).mono ?_
    intro p2
    have y0 := hx.cell 0 rfl
    have y1 := hx.cell 1 rfl
    have y2 := hx.cell 2 rfl
    have y3 := hx.cell 3 rfl
    have y4 := hx.cell 4 rfl
    have y5 := hx.cell 5 rfl
    have y6 := hx.cell 6 rfl
    have y7 := hx.cell 7 rfl
    have y8 := hx.cell 8 rfl
    have y9 := hx.cell 9 rfl
    have y10 := hx.cell 10 rfl
    have ly := hx.lt
    have s2 := hy.cell 3 rfl
    have ls := hy.lt
    have q0 := hq.cell 0 rfl
    have q1 := hq.cell 1 rfl
    have q2 := hq.cell 2 rfl
    have q3 := hq.cell 3 rfl
    have lq := hq.lt
    have e1 : Y.cell? ⟨b0, o0 + j * 3 + 1, none⟩ = some (.int .i64 x1) := (World.cell?_of_block (a := ⟨b0, o0 + j * 3 + 1, none⟩) (hu.below.block b0 HP.out.1)).trans HP.out.2.1
    have e2 : Y.cell? ⟨b0, o0 + j * 3 + 2, none⟩ = some (.int .i64 x2) := (World.cell?_of_block (a := ⟨b0, o0 + j * 3 + 2, none⟩) (hu.below.block b0 HP.out.1)).trans HP.out.2.2
    have lb0 : b0 < Y.heap.size := Nat.lt_of_lt_of_le HP.out.1 hu.below.size
    have HB2 := hide hu
    clear hu hx hy hq
    go_wp2_with fail
    ((first | with_reducible refine wp_region_ext2 (by kernel_rfl) (by kernel_rfl) ?_ | refine wp_region_ext (by kernel_rfl) (by kernel_rfl) ?_); (repeat (go_big_quiet_step (fail))); refine wpQuiet_nil ?_; intro _ hw'; obtain ⟨_, hw''⟩ := hw'; subst hw'')
    go_wp2
    go_ret
    exact ⟨rfl, (by repeat (first | with_reducible exact HB2.out | with_reducible exact Up.refl _ | apply Up.ext | apply Up.alloc | apply Up.drew | (refine Up.setCell ?_ (by simp [World.setCell]; try omega) _)))⟩
end Go.Proofs.YtnaiaodnnmhdkaaGreat
