/- Several texts in one. -/
import Derived.Test.YtnaiaodnnmhdkaaGreatWatchL
import Derived.Test.YtnaiaodnnmhdkaaGreatWatchQ
import Derived.Test.YtnaiaodnnmhdkaaGreatWatchM
/- What the three laws of layer 6 without a reference say, in plain Lean. No program. -/
namespace Go.Proofs.YtnaiaodnnmhdkaaGreat
set_option linter.unusedVariables false
set_option linter.unusedSimpArgs false
open Go.RowKit

theorem pbd_near {q : Int × Int} (h : PBd q) : nearV 33554432 q = true := (nearV_iff _ _).2 h
theorem field_eq {s : SkyD} {o : OffD} {q : Int × Int} (ho : offE s o = 0) (hq : PBd q) : fieldV s o q = fieldK (kndOf s o) q := by
  unfold fieldV
  rw [decide_eq_true ho, pbd_near hq, Bool.true_and, Bool.true_and]
theorem view_eq {s : SkyD} {o : OffD} {a : Ar4} (ho : offE s o = 0) (ha : ABd a) : viewV s o a = (viewK (kndOf s o) a, 0) := by
  unfold viewV
  rw [if_pos ho, if_pos ((areaB_iff a).2 ha)]
theorem sure_may {k : KndD} {a : Ar4} (ha : ABd a) (h : (cornersA a).all (fieldK k) = true) : mayK k a = true := by
  rw [List.all_eq_true] at h
  have hc : (a.1, a.2.2.1) ∈ cornersA a := by simp [cornersA]
  exact field_may (corner_in ha _ hc) (h _ hc)

theorem reads_cases (s : SkyD) (o : OffD) (q : Int × Int) : (fieldV s o q = true ∧ (readsK (kndOf s o) q).1 ≤ (readsK (kndOf s o) q).2 ∧ readsV s o q = (((readsK (kndOf s o) q).1, (readsK (kndOf s o) q).2), true)) ∨
    (¬ (fieldV s o q = true ∧ (readsK (kndOf s o) q).1 ≤ (readsK (kndOf s o) q).2) ∧ readsV s o q = ((0, 0), false)) := by
  unfold readsV
  by_cases h : fieldV s o q = true ∧ (readsK (kndOf s o) q).1 ≤ (readsK (kndOf s o) q).2
  · rw [if_pos h]; exact .inl ⟨h.1, h.2, rfl⟩
  · rw [if_neg h]; exact .inr ⟨h, rfl⟩

/-- places of an area -/
theorem places_facts {s : SkyD} {o : OffD} {a : Ar4} {q : Int × Int} (ho : offE s o = 0) (ha : ABd a) (hq : InA q a) :
    ∃ (may sure : Bool) (v1 v2 : Int) (F : Bool) (l1 l2 : Int) (is : Bool), viewV s o a = ((may, sure, v1, v2), 0) ∧ fieldV s o q = F ∧ readsV s o q = ((l1, l2), is) ∧ (sure = true → may = true) ∧ (sure = true → F = true) ∧ (F = true → may = true) ∧ (is = true → F = true) ∧ (is = true → l1 ≤ l2 ∧ v1 ≤ l1 ∧ l2 ≤ v2) := by
  have hk := kbd_of ho
  have hp := hq.bd ha
  have hF := field_eq ho hp
  rcases reads_cases s o q with ⟨h1, h2, h3⟩ | ⟨_, h3⟩
  · rw [hF] at h1
    obtain ⟨g1, g2, _⟩ := reads_in hk ha hq h1
    have hm := field_may hq h1
    refine ⟨mayK (kndOf s o) a, (cornersA a).all (fieldK (kndOf s o)), clampS (valuesK (kndOf s o) a).1, clampS (valuesK (kndOf s o) a).2, _, _, _, _, ?_, hF, h3, sure_may ha, sure_field hq, field_may hq, fun _ => h1, fun _ => ⟨h2, g1, g2⟩⟩
    rw [view_eq ho ha]
    unfold viewK
    rw [if_pos hm]
  · refine ⟨mayK (kndOf s o) a, (cornersA a).all (fieldK (kndOf s o)), (viewK (kndOf s o) a).2.2.1, (viewK (kndOf s o) a).2.2.2, _, _, _, _, ?_, hF, h3, sure_may ha, sure_field hq, field_may hq, fun h => by (cases h), fun h => by (cases h)⟩
    rw [view_eq ho ha]
    rfl

/-- values that can be read -/
theorem reads_facts {s : SkyD} {o : OffD} {q : Int × Int} (ho : offE s o = 0) (hq : PBd q) :
    ∃ (F : Bool) (l1 l2 : Int) (is : Bool), fieldV s o q = F ∧ readsV s o q = ((l1, l2), is) ∧ (is = true → F = true) ∧ ((-2000000 ≤ l1 ∧ l1 ≤ 135000000) ∧ -2000000 ≤ l2 ∧ l2 ≤ 135000000) ∧
      (∀ v, agreesV s o 2 v q = (is && withinB v l1 l2)) ∧ (∀ v, agreesV s o 1 v q = !F) ∧ ∀ v, agreesV s o 0 v q = true := by
  have hk := kbd_of ho
  have hn := pbd_near hq
  have hF := field_eq ho hq
  have hin : InA q (q.1, q.1, q.2, q.2) := ⟨⟨Int.le_refl _, Int.le_refl _⟩, Int.le_refl _, Int.le_refl _⟩
  have hab : ABd (q.1, q.1, q.2, q.2) := ⟨⟨hq.1.1, Int.le_refl _, hq.1.2⟩, hq.2.1, Int.le_refl _, hq.2.2⟩
  have a0 : ∀ v, agreesV s o 0 v q = true := fun v => by unfold agreesV; rw [if_pos ⟨ho, hn⟩, if_pos rfl]
  have a1 : ∀ v, agreesV s o 1 v q = !fieldK (kndOf s o) q := fun v => by unfold agreesV; rw [if_pos ⟨ho, hn⟩, if_neg (by decide), if_pos rfl]
  have a2 : ∀ v, agreesV s o 2 v q = (fieldK (kndOf s o) q && withinB v (readsK (kndOf s o) q).1 (readsK (kndOf s o) q).2) := fun v => by unfold agreesV; rw [if_pos ⟨ho, hn⟩, if_neg (by decide), if_neg (by decide), if_pos rfl]
  rcases reads_cases s o q with ⟨h1, h2, h3⟩ | ⟨h1, h3⟩
  · rw [hF] at h1
    refine ⟨fieldK (kndOf s o) q, _, _, _, hF, h3, fun _ => h1, (reads_in hk hab hin h1).2.2, fun v => ?_, a1, a0⟩
    rw [a2, h1]
  · rw [hF] at h1
    refine ⟨fieldK (kndOf s o) q, _, _, _, hF, h3, fun h => by (cases h), by omega, fun v => ?_, a1, a0⟩
    rw [a2, Bool.false_and]
    cases hf : fieldK (kndOf s o) q with
    | false => rfl
    | true =>
      have hc' : ¬ (readsK (kndOf s o) q).1 ≤ (readsK (kndOf s o) q).2 := fun h => h1 ⟨hf, h⟩
      rw [Bool.true_and]
      refine Bool.eq_false_iff.2 fun hw => ?_
      unfold withinB at hw
      simp only [decide_eq_true_eq] at hw
      omega

/-- what is told apart -/
theorem valid_iff (a b c d : Int) : validE a b c d = 0 ↔ checkE a b = 0 ∧ checkE c d = 0 := by
  unfold validE
  by_cases h : checkE a b = 0
  · rw [if_pos h]; exact ⟨fun h2 => ⟨h, h2⟩, fun h2 => h2.2⟩
  · rw [if_neg h]; exact ⟨fun h2 => absurd h2 h, fun h2 => absurd h2.1 h⟩
theorem meet_iff (a b c d : Int) : (meetS a b c d).2.2 = true ↔ checkE a b = 0 ∧ checkE c d = 0 ∧ max a c ≤ min b d := by
  unfold meetS
  have hv := valid_iff a b c d
  by_cases h : validE a b c d = 0 ∧ max a c ≤ min b d
  · rw [if_pos h]; exact ⟨fun _ => ⟨(hv.1 h.1).1, (hv.1 h.1).2, h.2⟩, fun _ => rfl⟩
  · rw [if_neg h]; exact ⟨fun h2 => by (cases h2), fun h2 => absurd ⟨hv.2 ⟨h2.1, h2.2.1⟩, h2.2.2⟩ h⟩
theorem meet_comm_b (a b c d : Int) : (meetS a b c d).2.2 = (meetS c d a b).2.2 := by
  rw [Bool.eq_iff_iff, meet_iff, meet_iff, Int.max_comm, Int.min_comm]
  exact ⟨fun ⟨h1, h2, h3⟩ => ⟨h2, h1, h3⟩, fun ⟨h1, h2, h3⟩ => ⟨h2, h1, h3⟩⟩
theorem mixed_comm (x y : Bool × Bool × Int × Int) : mixedB x y = mixedB y x := by
  unfold mixedB
  rw [meet_comm_b]
  generalize (meetS y.2.2.1 y.2.2.2 x.2.2.1 x.2.2.2).2.2 = m
  generalize x.1 = a
  generalize y.1 = b
  generalize x.2.1 = c
  generalize y.2.1 = d
  cases a <;> cases b <;> cases c <;> cases d <;> cases m <;> rfl
theorem apart_comm (s : SkyD) (o : OffD) (a b : Ar4) : apartV s o a b = apartV s o b a := by
  unfold apartV
  rw [mixed_comm]
  generalize mixedB (viewV s o b).1 (viewV s o a).1 = m
  generalize decide ((viewV s o a).2 = 0) = x
  generalize decide ((viewV s o b).2 = 0) = y
  cases x <;> cases y <;> cases m <;> rfl
theorem mixed_may {k : KndD} {a b : Ar4} (hk : KBd k) (ha : ABd a) (hb : ABd b) (m1 : mayK k a = true) (m2 : mayK k b = true) {t : Int} (h1 : clampS (valuesK k a).1 ≤ t ∧ t ≤ clampS (valuesK k a).2) (h2 : clampS (valuesK k b).1 ≤ t ∧ t ≤ clampS (valuesK k b).2) :
    mixedB (viewK k a) (viewK k b) = true := by
  have c1 := clamp_bd (valuesK k a).1
  have c2 := clamp_bd (valuesK k a).2
  have c3 := clamp_bd (valuesK k b).1
  have c4 := clamp_bd (valuesK k b).2
  have o1 := clamp_mono (vals_ord hk ha)
  have o2 := clamp_mono (vals_ord hk hb)
  unfold mixedB viewK
  dsimp only
  rw [if_pos m1, if_pos m2, m1, m2]
  dsimp only
  rw [(meet_iff _ _ _ _).2 ⟨check_ok (by omega) o1 (by omega), check_ok (by omega) o2 (by omega), by omega⟩]
  rfl
theorem apart_self {s : SkyD} {o : OffD} {a : Ar4} (ho : offE s o = 0) (ha : ABd a) : apartV s o a a = false := by
  have hk := kbd_of ho
  unfold apartV
  rw [view_eq ho ha]
  dsimp only
  cases hs : (cornersA a).all (fieldK (kndOf s o)) with
  | true =>
    have hm := sure_may ha hs
    have o1 := clamp_mono (vals_ord hk ha)
    rw [mixed_may hk ha ha hm hm (t := clampS (valuesK (kndOf s o) a).1) ⟨Int.le_refl _, o1⟩ ⟨Int.le_refl _, o1⟩]
    rfl
  | false =>
    unfold mixedB viewK
    dsimp only
    rw [hs]
    simp
theorem apart_common {s : SkyD} {o : OffD} {a b : Ar4} (ho : offE s o = 0) (ha : ABd a) (hb : ABd b) (h : apartV s o a b = true) : ¬ (a.1 ≤ b.2.1 ∧ b.1 ≤ a.2.1 ∧ a.2.2.1 ≤ b.2.2.2 ∧ b.2.2.1 ≤ a.2.2.2) := by
  intro hc
  have hk := kbd_of ho
  have qa : InA (max a.1 b.1, max a.2.2.1 b.2.2.1) a := by
    obtain ⟨⟨a1, a2, a3⟩, b1, b2, b3⟩ := ha
    unfold InA; dsimp only; omega
  have qb : InA (max a.1 b.1, max a.2.2.1 b.2.2.1) b := by
    obtain ⟨⟨a1, a2, a3⟩, b1, b2, b3⟩ := hb
    unfold InA; dsimp only; omega
  unfold apartV at h
  rw [view_eq ho ha, view_eq ho hb] at h
  dsimp only at h
  simp only [decide_true, Bool.true_and, Bool.not_eq_true'] at h
  have hsure : fieldK (kndOf s o) (max a.1 b.1, max a.2.2.1 b.2.2.1) = true := by
    cases hf : fieldK (kndOf s o) (max a.1 b.1, max a.2.2.1 b.2.2.1) with
    | true => rfl
    | false =>
      have s1 : (cornersA a).all (fieldK (kndOf s o)) = false := by
        cases h1 : (cornersA a).all (fieldK (kndOf s o)) with
        | false => rfl
        | true => rw [sure_field qa h1] at hf; cases hf
      have s2 : (cornersA b).all (fieldK (kndOf s o)) = false := by
        cases h1 : (cornersA b).all (fieldK (kndOf s o)) with
        | false => rfl
        | true => rw [sure_field qb h1] at hf; cases hf
      unfold mixedB viewK at h
      dsimp only at h
      rw [s1, s2] at h
      simp at h
  obtain ⟨t, h1, h2⟩ := common_val hk ha hb qa qb hsure
  rw [mixed_may hk ha hb (field_may qa hsure) (field_may qb hsure) h1 h2] at h
  cases h
end Go.Proofs.YtnaiaodnnmhdkaaGreat

/- Package watch: whether two areas can be mixed up, whether an offer tells them apart. Conditions: what lies in memory. -/
namespace Go.Proofs.YtnaiaodnnmhdkaaGreat
set_option linter.unusedVariables false
set_option linter.unusedSimpArgs false
open Go.RowKit Go.Shelf

set_option maxRecDepth 100000 in
set_option maxHeartbeats 4000000 in
theorem wmixed_any (x y : Bool × Bool × Int × Int) (w : World) : Gives Tryz.prog 76 #[.agg (viewA x), .agg (viewA y)] w (.bool (mixedB x y)) := by
  obtain ⟨x1, x2, x3, x4⟩ := x
  obtain ⟨y1, y2, y3, y4⟩ := y
  have HM := hide (fun W => meet_any x3 x4 y3 y4 W)
  unfold mixedB viewA
  dsimp only
  generalize meetS x3 x4 y3 y4 = M at *
  obtain ⟨M1, M2, M3⟩ := M
  dsimp only at *
  (unfold Gives; go_enter Tryz.func76, Tryz.ntmps76)
  go_wp2_with fail
  go_at_call 133
  refine (HM.out _).mono ?_
  intro p1
  go_wp2
  all_goals (go_ret; refine ⟨ret_bool ?_, (by repeat (first | with_reducible exact Up.refl _ | with_reducible apply Up.plus | apply Up.ext | apply Up.alloc | apply Up.drew | (refine Up.setCell ?_ (by simp; try omega) _)))⟩)
  all_goals (simp_all)
end Go.Proofs.YtnaiaodnnmhdkaaGreat

/- Package watch: whether an offer tells two areas apart. Conditions: what lies in memory. -/
namespace Go.Proofs.YtnaiaodnnmhdkaaGreat
set_option linter.unusedVariables false
set_option linter.unusedSimpArgs false
open Go.RowKit Go.Shelf

set_option maxRecDepth 100000 in
set_option maxHeartbeats 4000000 in
theorem wApart_any {K : Nat → Prop} {w : World} {a sa ca : Option Addr} {n c sn sc cn cc : Nat} {s : SkyD} (hL : SkyL K w a n c sa sn sc ca cn cc s) (o : OffD) (x y : Ar4) : Gives Tryz.prog 24 #[.agg #[.slice a n c, .int .i64 s.home, .slice sa sn sc, .slice ca cn cc], .agg (offA o), .agg #[.int .i64 (x.1), .int .i64 (x.2.1), .int .i64 (x.2.2.1), .int .i64 (x.2.2.2)], .agg #[.int .i64 (y.1), .int .i64 (y.2.1), .int .i64 (y.2.2.1), .int .i64 (y.2.2.2)]] w (.bool (apartV s o x y)) := by
  have H1 := hide (fun W (hu : Up w W) => wView_any (hL.up hu) o x)
  have H2 := hide (fun W (hu : Up w W) => wView_any (hL.up hu) o y)
  have HM := hide (fun W => wmixed_any (viewV s o x).1 (viewV s o y).1 W)
  unfold apartV
  generalize viewV s o x = A at *
  generalize viewV s o y = B at *
  obtain ⟨⟨A1, A2, A3, A4⟩, e⟩ := A
  obtain ⟨⟨B1, B2, B3, B4⟩, f⟩ := B
  dsimp only at *
  generalize mixedB (A1, A2, A3, A4) (B1, B2, B3, B4) = M at *
  generalize s.home = home at *
  clear hL
  obtain ⟨x0, x1, x2, x3⟩ := x
  obtain ⟨y0, y1, y2, y3⟩ := y
  unfold viewA at *
  dsimp only at *
  by_cases he : e = 0
  rotate_left
  · have heb : (e == 0) = false := by simpa using he
    rw [decide_eq_false he, Bool.false_and]
    replace he := hide he
    (unfold Gives; go_enter Tryz.func24, Tryz.ntmps24)
    go_wp2_with fail
    go_at_call 22
    refine forgetK (fun V => Up w V ∧ Box V w.heap.size #[.slice a n c, .int .i64 home, .slice sa sn sc, .slice ca cn cc] 28 ∧ Box V (w.heap.size + 1) (offA o) 32 ∧ Box V (w.heap.size + 1 + 1) #[.int .i64 (x0), .int .i64 (x1), .int .i64 (x2), .int .i64 (x3)] 46 ∧ Box V (w.heap.size + 1 + 1 + 1) #[.int .i64 (y0), .int .i64 (y1), .int .i64 (y2), .int .i64 (y3)] 46 ∧ True) ⟨(by repeat (first | with_reducible exact Up.refl _ | with_reducible apply Up.plus | apply Up.ext | apply Up.alloc | apply Up.drew | (refine Up.setCell ?_ (by simp; try omega) _))), (by repeat (first | exact Box.mk rfl | (refine Box.mk ?_; simp; done) | apply Box.ext | apply Box.drew | apply Box.alloc | apply Box.two1 | (refine Box.other ?_ (by omega) _ _))), (by repeat (first | exact Box.mk rfl | (refine Box.mk ?_; simp; done) | apply Box.ext | apply Box.drew | apply Box.alloc | apply Box.two1 | (refine Box.other ?_ (by omega) _ _))), (by repeat (first | exact Box.mk rfl | (refine Box.mk ?_; simp; done) | apply Box.ext | apply Box.drew | apply Box.alloc | apply Box.two1 | (refine Box.other ?_ (by omega) _ _))), (by repeat (first | exact Box.mk rfl | (refine Box.mk ?_; simp; done) | apply Box.ext | apply Box.drew | apply Box.alloc | apply Box.two1 | (refine Box.other ?_ (by omega) _ _))), trivial⟩ ?_
    rintro V1 ⟨hu, bs, bo, bx, bb, _⟩
    have HB := hide (And.intro hu (And.intro bs (And.intro bo (And.intro bx (And.intro bb trivial)))))
    clear hu bs bo bx bb
    refine (H1.out _ HB.out.1).mono ?_
    intro p1
    have s0 := HB.out.2.1.cell 0 rfl
    have s1 := HB.out.2.1.cell 1 rfl
    have s2 := HB.out.2.1.cell 2 rfl
    have s3 := HB.out.2.1.cell 3 rfl
    have ls := HB.out.2.1.lt
    have f0 := HB.out.2.2.1.cell 0 rfl
    have f1 := HB.out.2.2.1.cell 1 rfl
    have f2 := HB.out.2.2.1.cell 2 rfl
    have f3 := HB.out.2.2.1.cell 3 rfl
    have f4 := HB.out.2.2.1.cell 4 rfl
    have f5 := HB.out.2.2.1.cell 5 rfl
    have f6 := HB.out.2.2.1.cell 6 rfl
    have f7 := HB.out.2.2.1.cell 7 rfl
    have f8 := HB.out.2.2.1.cell 8 rfl
    have f9 := HB.out.2.2.1.cell 9 rfl
    have f10 := HB.out.2.2.1.cell 10 rfl
    have lf := HB.out.2.2.1.lt
    have g0 := HB.out.2.2.2.1.cell 0 rfl
    have g1 := HB.out.2.2.2.1.cell 1 rfl
    have g2 := HB.out.2.2.2.1.cell 2 rfl
    have g3 := HB.out.2.2.2.1.cell 3 rfl
    have lg := HB.out.2.2.2.1.lt
    have k0 := HB.out.2.2.2.2.1.cell 0 rfl
    have k1 := HB.out.2.2.2.2.1.cell 1 rfl
    have k2 := HB.out.2.2.2.2.1.cell 2 rfl
    have k3 := HB.out.2.2.2.2.1.cell 3 rfl
    have lk := HB.out.2.2.2.2.1.lt
    obtain ⟨Q9, hQ9⟩ : ∃ T, V1.heap.size + p1.os.size = T := ⟨_, rfl⟩
    go_wp2_with fail
    go_at_call 22
    try rw [hQ9]
    refine forgetK (fun V => Up w V ∧ Box V w.heap.size #[.slice a n c, .int .i64 home, .slice sa sn sc, .slice ca cn cc] 28 ∧ Box V (w.heap.size + 1) (offA o) 32 ∧ Box V (w.heap.size + 1 + 1) #[.int .i64 (x0), .int .i64 (x1), .int .i64 (x2), .int .i64 (x3)] 46 ∧ Box V (w.heap.size + 1 + 1 + 1) #[.int .i64 (y0), .int .i64 (y1), .int .i64 (y2), .int .i64 (y3)] 46 ∧ Box V Q9 #[.bool A1, .bool A2, .int .i64 A3, .int .i64 A4] 50) ⟨(by repeat (first | with_reducible exact HB.out.1 | with_reducible exact Up.refl _ | with_reducible apply Up.ext | with_reducible apply Up.alloc | with_reducible apply Up.drew | (with_reducible refine Up.setCell ?_ (by simp only; omega) _))), (by repeat (first | with_reducible exact HB.out.2.1 | with_reducible apply Box.ext | with_reducible apply Box.alloc | with_reducible apply Box.drew | (with_reducible refine Box.other ?_ (by omega) _ _))), (by repeat (first | with_reducible exact HB.out.2.2.1 | with_reducible apply Box.ext | with_reducible apply Box.alloc | with_reducible apply Box.drew | (with_reducible refine Box.other ?_ (by omega) _ _))), (by repeat (first | with_reducible exact HB.out.2.2.2.1 | with_reducible apply Box.ext | with_reducible apply Box.alloc | with_reducible apply Box.drew | (with_reducible refine Box.other ?_ (by omega) _ _))), (by repeat (first | with_reducible exact HB.out.2.2.2.2.1 | with_reducible apply Box.ext | with_reducible apply Box.alloc | with_reducible apply Box.drew | (with_reducible refine Box.other ?_ (by omega) _ _))), by rw [← hQ9]; exact (by repeat (first | exact Box.mk rfl | (refine Box.mk ?_; simp; done) | apply Box.ext | apply Box.drew | apply Box.alloc | apply Box.two1 | (refine Box.other ?_ (by omega) _ _)))⟩ ?_
    clear HB hQ9 s0 s1 s2 s3 ls f0 f1 f2 f3 f4 f5 f6 f7 f8 f9 f10 lf g0 g1 g2 g3 lg k0 k1 k2 k3 lk
    rintro V2 ⟨hu, bs, bo, bx, bb, b9⟩
    have HB := hide (And.intro hu b9)
    clear bs bo bx bb
    refine (H2.out _ hu).mono ?_
    intro p2
    have m0 := b9.cell 0 rfl
    have m1 := b9.cell 1 rfl
    have m2 := b9.cell 2 rfl
    have m3 := b9.cell 3 rfl
    have lm := b9.lt
    clear hu b9
    go_wp2
    go_ret
    exact ⟨rfl, (by repeat (first | with_reducible exact HB.out.1 | with_reducible exact Up.refl _ | apply Up.ext | apply Up.alloc | apply Up.drew | (refine Up.setCell ?_ (by simp [World.setCell]; try omega) _)))⟩
  subst he
  by_cases hf : f = 0
  rotate_left
  · have hfb : (f == 0) = false := by simpa using hf
    rw [decide_eq_true rfl, Bool.true_and, decide_eq_false hf, Bool.false_and]
    replace hf := hide hf
    (unfold Gives; go_enter Tryz.func24, Tryz.ntmps24)
    go_wp2_with fail
    go_at_call 22
    refine forgetK (fun V => Up w V ∧ Box V w.heap.size #[.slice a n c, .int .i64 home, .slice sa sn sc, .slice ca cn cc] 28 ∧ Box V (w.heap.size + 1) (offA o) 32 ∧ Box V (w.heap.size + 1 + 1) #[.int .i64 (x0), .int .i64 (x1), .int .i64 (x2), .int .i64 (x3)] 46 ∧ Box V (w.heap.size + 1 + 1 + 1) #[.int .i64 (y0), .int .i64 (y1), .int .i64 (y2), .int .i64 (y3)] 46 ∧ True) ⟨(by repeat (first | with_reducible exact Up.refl _ | with_reducible apply Up.plus | apply Up.ext | apply Up.alloc | apply Up.drew | (refine Up.setCell ?_ (by simp; try omega) _))), (by repeat (first | exact Box.mk rfl | (refine Box.mk ?_; simp; done) | apply Box.ext | apply Box.drew | apply Box.alloc | apply Box.two1 | (refine Box.other ?_ (by omega) _ _))), (by repeat (first | exact Box.mk rfl | (refine Box.mk ?_; simp; done) | apply Box.ext | apply Box.drew | apply Box.alloc | apply Box.two1 | (refine Box.other ?_ (by omega) _ _))), (by repeat (first | exact Box.mk rfl | (refine Box.mk ?_; simp; done) | apply Box.ext | apply Box.drew | apply Box.alloc | apply Box.two1 | (refine Box.other ?_ (by omega) _ _))), (by repeat (first | exact Box.mk rfl | (refine Box.mk ?_; simp; done) | apply Box.ext | apply Box.drew | apply Box.alloc | apply Box.two1 | (refine Box.other ?_ (by omega) _ _))), trivial⟩ ?_
    rintro V1 ⟨hu, bs, bo, bx, bb, _⟩
    have HB := hide (And.intro hu (And.intro bs (And.intro bo (And.intro bx (And.intro bb trivial)))))
    clear hu bs bo bx bb
    refine (H1.out _ HB.out.1).mono ?_
    intro p1
    have s0 := HB.out.2.1.cell 0 rfl
    have s1 := HB.out.2.1.cell 1 rfl
    have s2 := HB.out.2.1.cell 2 rfl
    have s3 := HB.out.2.1.cell 3 rfl
    have ls := HB.out.2.1.lt
    have f0 := HB.out.2.2.1.cell 0 rfl
    have f1 := HB.out.2.2.1.cell 1 rfl
    have f2 := HB.out.2.2.1.cell 2 rfl
    have f3 := HB.out.2.2.1.cell 3 rfl
    have f4 := HB.out.2.2.1.cell 4 rfl
    have f5 := HB.out.2.2.1.cell 5 rfl
    have f6 := HB.out.2.2.1.cell 6 rfl
    have f7 := HB.out.2.2.1.cell 7 rfl
    have f8 := HB.out.2.2.1.cell 8 rfl
    have f9 := HB.out.2.2.1.cell 9 rfl
    have f10 := HB.out.2.2.1.cell 10 rfl
    have lf := HB.out.2.2.1.lt
    have g0 := HB.out.2.2.2.1.cell 0 rfl
    have g1 := HB.out.2.2.2.1.cell 1 rfl
    have g2 := HB.out.2.2.2.1.cell 2 rfl
    have g3 := HB.out.2.2.2.1.cell 3 rfl
    have lg := HB.out.2.2.2.1.lt
    have k0 := HB.out.2.2.2.2.1.cell 0 rfl
    have k1 := HB.out.2.2.2.2.1.cell 1 rfl
    have k2 := HB.out.2.2.2.2.1.cell 2 rfl
    have k3 := HB.out.2.2.2.2.1.cell 3 rfl
    have lk := HB.out.2.2.2.2.1.lt
    obtain ⟨Q9, hQ9⟩ : ∃ T, V1.heap.size + p1.os.size = T := ⟨_, rfl⟩
    go_wp2_with fail
    go_at_call 22
    try rw [hQ9]
    refine forgetK (fun V => Up w V ∧ Box V w.heap.size #[.slice a n c, .int .i64 home, .slice sa sn sc, .slice ca cn cc] 28 ∧ Box V (w.heap.size + 1) (offA o) 32 ∧ Box V (w.heap.size + 1 + 1) #[.int .i64 (x0), .int .i64 (x1), .int .i64 (x2), .int .i64 (x3)] 46 ∧ Box V (w.heap.size + 1 + 1 + 1) #[.int .i64 (y0), .int .i64 (y1), .int .i64 (y2), .int .i64 (y3)] 46 ∧ Box V Q9 #[.bool A1, .bool A2, .int .i64 A3, .int .i64 A4] 50) ⟨(by repeat (first | with_reducible exact HB.out.1 | with_reducible exact Up.refl _ | with_reducible apply Up.ext | with_reducible apply Up.alloc | with_reducible apply Up.drew | (with_reducible refine Up.setCell ?_ (by simp only; omega) _))), (by repeat (first | with_reducible exact HB.out.2.1 | with_reducible apply Box.ext | with_reducible apply Box.alloc | with_reducible apply Box.drew | (with_reducible refine Box.other ?_ (by omega) _ _))), (by repeat (first | with_reducible exact HB.out.2.2.1 | with_reducible apply Box.ext | with_reducible apply Box.alloc | with_reducible apply Box.drew | (with_reducible refine Box.other ?_ (by omega) _ _))), (by repeat (first | with_reducible exact HB.out.2.2.2.1 | with_reducible apply Box.ext | with_reducible apply Box.alloc | with_reducible apply Box.drew | (with_reducible refine Box.other ?_ (by omega) _ _))), (by repeat (first | with_reducible exact HB.out.2.2.2.2.1 | with_reducible apply Box.ext | with_reducible apply Box.alloc | with_reducible apply Box.drew | (with_reducible refine Box.other ?_ (by omega) _ _))), by rw [← hQ9]; exact (by repeat (first | exact Box.mk rfl | (refine Box.mk ?_; simp; done) | apply Box.ext | apply Box.drew | apply Box.alloc | apply Box.two1 | (refine Box.other ?_ (by omega) _ _)))⟩ ?_
    clear HB hQ9 s0 s1 s2 s3 ls f0 f1 f2 f3 f4 f5 f6 f7 f8 f9 f10 lf g0 g1 g2 g3 lg k0 k1 k2 k3 lk
    rintro V2 ⟨hu, bs, bo, bx, bb, b9⟩
    have HB := hide (And.intro hu b9)
    clear bs bo bx bb
    refine (H2.out _ hu).mono ?_
    intro p2
    have m0 := b9.cell 0 rfl
    have m1 := b9.cell 1 rfl
    have m2 := b9.cell 2 rfl
    have m3 := b9.cell 3 rfl
    have lm := b9.lt
    clear hu b9
    go_wp2
    go_ret
    exact ⟨rfl, (by repeat (first | with_reducible exact HB.out.1 | with_reducible exact Up.refl _ | apply Up.ext | apply Up.alloc | apply Up.drew | (refine Up.setCell ?_ (by simp [World.setCell]; try omega) _)))⟩
  subst hf
  rw [decide_eq_true (rfl : (0 : Int) = 0), Bool.true_and, Bool.true_and]
  (unfold Gives; go_enter Tryz.func24, Tryz.ntmps24)
  go_wp2_with fail
  go_at_call 22
  refine forgetK (fun V => Up w V ∧ Box V w.heap.size #[.slice a n c, .int .i64 home, .slice sa sn sc, .slice ca cn cc] 28 ∧ Box V (w.heap.size + 1) (offA o) 32 ∧ Box V (w.heap.size + 1 + 1) #[.int .i64 (x0), .int .i64 (x1), .int .i64 (x2), .int .i64 (x3)] 46 ∧ Box V (w.heap.size + 1 + 1 + 1) #[.int .i64 (y0), .int .i64 (y1), .int .i64 (y2), .int .i64 (y3)] 46 ∧ True) ⟨(by repeat (first | with_reducible exact Up.refl _ | with_reducible apply Up.plus | apply Up.ext | apply Up.alloc | apply Up.drew | (refine Up.setCell ?_ (by simp; try omega) _))), (by repeat (first | exact Box.mk rfl | (refine Box.mk ?_; simp; done) | apply Box.ext | apply Box.drew | apply Box.alloc | apply Box.two1 | (refine Box.other ?_ (by omega) _ _))), (by repeat (first | exact Box.mk rfl | (refine Box.mk ?_; simp; done) | apply Box.ext | apply Box.drew | apply Box.alloc | apply Box.two1 | (refine Box.other ?_ (by omega) _ _))), (by repeat (first | exact Box.mk rfl | (refine Box.mk ?_; simp; done) | apply Box.ext | apply Box.drew | apply Box.alloc | apply Box.two1 | (refine Box.other ?_ (by omega) _ _))), (by repeat (first | exact Box.mk rfl | (refine Box.mk ?_; simp; done) | apply Box.ext | apply Box.drew | apply Box.alloc | apply Box.two1 | (refine Box.other ?_ (by omega) _ _))), trivial⟩ ?_
  rintro V1 ⟨hu, bs, bo, bx, bb, _⟩
  have HB := hide (And.intro hu (And.intro bs (And.intro bo (And.intro bx (And.intro bb trivial)))))
  clear hu bs bo bx bb
  refine (H1.out _ HB.out.1).mono ?_
  intro p1
  have s0 := HB.out.2.1.cell 0 rfl
  have s1 := HB.out.2.1.cell 1 rfl
  have s2 := HB.out.2.1.cell 2 rfl
  have s3 := HB.out.2.1.cell 3 rfl
  have ls := HB.out.2.1.lt
  have f0 := HB.out.2.2.1.cell 0 rfl
  have f1 := HB.out.2.2.1.cell 1 rfl
  have f2 := HB.out.2.2.1.cell 2 rfl
  have f3 := HB.out.2.2.1.cell 3 rfl
  have f4 := HB.out.2.2.1.cell 4 rfl
  have f5 := HB.out.2.2.1.cell 5 rfl
  have f6 := HB.out.2.2.1.cell 6 rfl
  have f7 := HB.out.2.2.1.cell 7 rfl
  have f8 := HB.out.2.2.1.cell 8 rfl
  have f9 := HB.out.2.2.1.cell 9 rfl
  have f10 := HB.out.2.2.1.cell 10 rfl
  have lf := HB.out.2.2.1.lt
  have g0 := HB.out.2.2.2.1.cell 0 rfl
  have g1 := HB.out.2.2.2.1.cell 1 rfl
  have g2 := HB.out.2.2.2.1.cell 2 rfl
  have g3 := HB.out.2.2.2.1.cell 3 rfl
  have lg := HB.out.2.2.2.1.lt
  have k0 := HB.out.2.2.2.2.1.cell 0 rfl
  have k1 := HB.out.2.2.2.2.1.cell 1 rfl
  have k2 := HB.out.2.2.2.2.1.cell 2 rfl
  have k3 := HB.out.2.2.2.2.1.cell 3 rfl
  have lk := HB.out.2.2.2.2.1.lt
  obtain ⟨Q9, hQ9⟩ : ∃ T, V1.heap.size + p1.os.size = T := ⟨_, rfl⟩
  go_wp2_with fail
  go_at_call 22
  try rw [hQ9]
  refine forgetK (fun V => Up w V ∧ Box V w.heap.size #[.slice a n c, .int .i64 home, .slice sa sn sc, .slice ca cn cc] 28 ∧ Box V (w.heap.size + 1) (offA o) 32 ∧ Box V (w.heap.size + 1 + 1) #[.int .i64 (x0), .int .i64 (x1), .int .i64 (x2), .int .i64 (x3)] 46 ∧ Box V (w.heap.size + 1 + 1 + 1) #[.int .i64 (y0), .int .i64 (y1), .int .i64 (y2), .int .i64 (y3)] 46 ∧ Box V Q9 #[.bool A1, .bool A2, .int .i64 A3, .int .i64 A4] 50) ⟨(by repeat (first | with_reducible exact HB.out.1 | with_reducible exact Up.refl _ | with_reducible apply Up.ext | with_reducible apply Up.alloc | with_reducible apply Up.drew | (with_reducible refine Up.setCell ?_ (by simp only; omega) _))), (by repeat (first | with_reducible exact HB.out.2.1 | with_reducible apply Box.ext | with_reducible apply Box.alloc | with_reducible apply Box.drew | (with_reducible refine Box.other ?_ (by omega) _ _))), (by repeat (first | with_reducible exact HB.out.2.2.1 | with_reducible apply Box.ext | with_reducible apply Box.alloc | with_reducible apply Box.drew | (with_reducible refine Box.other ?_ (by omega) _ _))), (by repeat (first | with_reducible exact HB.out.2.2.2.1 | with_reducible apply Box.ext | with_reducible apply Box.alloc | with_reducible apply Box.drew | (with_reducible refine Box.other ?_ (by omega) _ _))), (by repeat (first | with_reducible exact HB.out.2.2.2.2.1 | with_reducible apply Box.ext | with_reducible apply Box.alloc | with_reducible apply Box.drew | (with_reducible refine Box.other ?_ (by omega) _ _))), by rw [← hQ9]; exact (by repeat (first | exact Box.mk rfl | (refine Box.mk ?_; simp; done) | apply Box.ext | apply Box.drew | apply Box.alloc | apply Box.two1 | (refine Box.other ?_ (by omega) _ _)))⟩ ?_
  clear HB hQ9 s0 s1 s2 s3 ls f0 f1 f2 f3 f4 f5 f6 f7 f8 f9 f10 lf g0 g1 g2 g3 lg k0 k1 k2 k3 lk
  rintro V2 ⟨hu, bs, bo, bx, bb, b9⟩
  have HB := hide (And.intro hu b9)
  clear bs bo bx bb
  refine (H2.out _ hu).mono ?_
  intro p2
  have m0 := b9.cell 0 rfl
  have m1 := b9.cell 1 rfl
  have m2 := b9.cell 2 rfl
  have m3 := b9.cell 3 rfl
  have lm := b9.lt
  clear hu b9
  go_wp2_with fail
  go_at_call 76
  refine (HM.out _).mono ?_
  intro p3
  go_wp2
  go_ret
  exact ⟨rfl, (by repeat (first | with_reducible exact HB.out.1 | with_reducible exact Up.refl _ | apply Up.ext | apply Up.alloc | apply Up.drew | (refine Up.setCell ?_ (by simp [World.setCell]; try omega) _)))⟩
end Go.Proofs.YtnaiaodnnmhdkaaGreat

