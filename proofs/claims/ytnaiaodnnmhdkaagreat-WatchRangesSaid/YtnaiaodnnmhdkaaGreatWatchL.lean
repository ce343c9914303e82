/- Several texts in one. -/
import Derived.Test.YtnaiaodnnmhdkaaGreatWatchA
import Derived.Test.YtnaiaodnnmhdkaaGreatWatchQ
/- Package watch: squares, turns, what is in a field. Conditions: bounds. -/
namespace Go.Proofs.YtnaiaodnnmhdkaaGreat
set_option linter.unusedVariables false
set_option linter.unusedSimpArgs false
open Go.RowKit Go.Shelf

abbrev postA (k : KndD) : Array Value := #[.int .i64 (k.wx), .int .i64 (k.wy), .int .i64 (k.far), .int .i64 (k.err)]
abbrev scopeA (k : KndD) : Array Value := #[.int .i64 (k.wx), .int .i64 (k.wy), .int .i64 (k.far), .int .i64 (k.err), .int .i64 (k.dx), .int .i64 (k.dy), .int .i64 (k.lo), .int .i64 (k.hi), .int .i64 (k.wide)]
theorem wsquare_any {k : KndD} {p : Int × Int} (hk : KBd k) (hp : PBd p) (w : World) : Gives Tryz.prog 313 #[.agg (postA k), .agg #[.int .i64 (p.1), .int .i64 (p.2)]] w (.int .i64 (sqK k p)) := by
  have h := sq_bdK hk hp
  unfold sqK postA at *
  obtain ⟨p1, p2⟩ := p
  obtain ⟨⟨⟨a1, a2⟩, a3, a4⟩, ⟨b1, b2⟩, ⟨b3, b4⟩, b5, b6⟩ := h
  dsimp only at *
  generalize k.wx = wx at *
  generalize k.wy = wy at *
  generalize k.far = fr at *
  generalize k.err = er at *
  clear hk hp
  (unfold Gives; go_enter Tryz.func313, Tryz.ntmps313)
  go_wp2
  go_ret
  exact ⟨rfl, (by repeat (first | with_reducible exact Up.refl _ | with_reducible apply Up.plus | apply Up.ext | apply Up.alloc | apply Up.drew | (refine Up.setCell ?_ (by simp; try omega) _)))⟩
theorem wturns_any {k : KndD} {p : Int × Int} (hk : KBd k) (hp : PBd p) (w : World) : Gives Tryz.prog 171 #[.agg (scopeA k), .agg #[.int .i64 (p.1), .int .i64 (p.2)]] w (.tuple #[.int .i64 (crK k p), .int .i64 (doK k p)]) := by
  have h := sq_bdK hk hp
  have h2 := cr_bdK hk hp
  unfold crK doK scopeA at *
  obtain ⟨p1, p2⟩ := p
  obtain ⟨⟨⟨a1, a2⟩, a3, a4⟩, _⟩ := h
  obtain ⟨⟨⟨b1, b2⟩, b3, b4⟩, ⟨⟨b5, b6⟩, b7, b8⟩, ⟨b9, b10⟩, b11, b12⟩ := h2
  dsimp only at *
  generalize k.wx = wx at *
  generalize k.wy = wy at *
  generalize k.far = fr at *
  generalize k.err = er at *
  generalize k.dx = dx at *
  generalize k.dy = dy at *
  generalize k.lo = lo at *
  generalize k.hi = hi at *
  generalize k.wide = wd at *
  clear hk hp
  (unfold Gives; go_enter Tryz.func171, Tryz.ntmps171)
  go_wp2_with fail
  ((first | with_reducible refine wp_region_ext2 (by kernel_rfl) (by kernel_rfl) ?_ | refine wp_region_ext (by kernel_rfl) (by kernel_rfl) ?_); (repeat (go_big_quiet_step (fail))); refine wpQuiet_nil ?_; intro _ hw'; obtain ⟨_, hw''⟩ := hw'; subst hw'')
  go_wp2_with fail
  ((first | with_reducible refine wp_region_ext2 (by kernel_rfl) (by kernel_rfl) ?_ | refine wp_region_ext (by kernel_rfl) (by kernel_rfl) ?_); (repeat (go_big_quiet_step (fail))); refine wpQuiet_nil ?_; intro _ hw'; obtain ⟨_, hw''⟩ := hw'; subst hw'')
  go_wp2
  refine bodyPost_give (by repeat (first | with_reducible exact Up.refl _ | with_reducible apply Up.plus | apply Up.ext | apply Up.alloc | apply Up.drew | (refine Up.setCell ?_ (by simp; try omega) _))) rfl ⟨_, (by simp [results, Tryz.results171, go_sem]; rfl), ?_⟩
  rfl
theorem wreaches_any {k : KndD} {p : Int × Int} (hk : KBd k) (hp : PBd p) (w : World) : Gives Tryz.prog 308 #[.agg (postA k), .agg #[.int .i64 (p.1), .int .i64 (p.2)]] w (.bool (reachK k p)) := by
  have HS := hide (fun W => wsquare_any hk hp W)
  have hf := hk.far
  have hm := mul_abs (show -134217728 ≤ k.far by omega) hf.2 (show -134217728 ≤ k.far by omega) hf.2
  have e : (134217728 : Int) * 134217728 = 18014398509481984 := by decide
  rw [e] at hm
  have hb := (sq_bdK hk hp).2.2.2
  unfold reachK
  obtain ⟨p1, p2⟩ := p
  dsimp only at *
  generalize sqK k (p1, p2) = S at *
  unfold postA at *
  generalize k.wx = wx at *
  generalize k.wy = wy at *
  generalize k.far = fr at *
  generalize k.err = er at *
  clear hk hp
  (unfold Gives; go_enter Tryz.func308, Tryz.ntmps308)
  go_wp2_with fail
  ((first | with_reducible refine wp_region_ext2 (by kernel_rfl) (by kernel_rfl) ?_ | refine wp_region_ext (by kernel_rfl) (by kernel_rfl) ?_); (repeat (go_big_quiet_step ((go_at_call 313; exact Gives.inRegion (HS.out _))))); refine wpQuiet_nil ?_; intro _ hw'; obtain ⟨_, hw''⟩ := hw'; subst hw'')
  go_wp2
  go_ret
  exact ⟨rfl, (by repeat (first | with_reducible exact Up.refl _ | with_reducible apply Up.plus | apply Up.ext | apply Up.alloc | apply Up.drew | (refine Up.setCell ?_ (by simp; try omega) _)))⟩
theorem wwithin2_any {k : KndD} {p : Int × Int} {g : Int} (hk : KBd k) (hp : PBd p) (g0 : 0 ≤ g) (g1 : g ≤ 1000000) (w : World) : Gives Tryz.prog 134 #[.agg (scopeA k), .agg #[.int .i64 (p.1), .int .i64 (p.2)], .int .i64 g] w (.bool (withinK k p g)) := by
  have HT := hide (fun W => wturns_any hk hp W)
  have hc := cr_bdK hk hp
  have hd := wd_bdK hk hp g0 g1
  have hn : -g * doK k p = -(g * doK k p) := Int.neg_mul _ _
  unfold withinK
  obtain ⟨p1, p2⟩ := p
  dsimp only at *
  have hc1 := hc.2.2.1
  have hc2 := hc.2.2.2
  generalize crK k (p1, p2) = C at *
  generalize doK k (p1, p2) = D at *
  unfold scopeA at *
  generalize k.wx = wx at *
  generalize k.wy = wy at *
  generalize k.far = fr at *
  generalize k.err = er at *
  generalize k.dx = dx at *
  generalize k.dy = dy at *
  generalize k.lo = lo at *
  generalize k.hi = hi at *
  generalize k.wide = wd at *
  clear hk hp hc
  have hd1 : -558345748480000000 ≤ -g * D ∧ -g * D ≤ 558345748480000000 := by omega
  clear hn
  by_cases h0 : 0 < D
  · have h0b : decide (0 < D) = true := by simpa using h0
    rw [h0b, Bool.true_and]
    by_cases h1 : -g * D ≤ 1000000 * C
    · have h1b : decide (-g * D ≤ 1000000 * C) = true := by simpa using h1
      rw [h1b, Bool.true_and]
      (unfold Gives; go_enter Tryz.func134, Tryz.ntmps134)
      go_wp2_with (go_at_call 171; refine (HT.out _).mono ?_; intro _)
      go_ret
      exact ⟨rfl, (by repeat (first | with_reducible exact Up.refl _ | with_reducible apply Up.plus | apply Up.ext | apply Up.alloc | apply Up.drew | (refine Up.setCell ?_ (by simp; try omega) _)))⟩
    · have h1b : decide (-g * D ≤ 1000000 * C) = false := by simpa using h1
      rw [h1b, Bool.false_and]
      (unfold Gives; go_enter Tryz.func134, Tryz.ntmps134)
      go_wp2_with (go_at_call 171; refine (HT.out _).mono ?_; intro _)
      go_ret
      exact ⟨rfl, (by repeat (first | with_reducible exact Up.refl _ | with_reducible apply Up.plus | apply Up.ext | apply Up.alloc | apply Up.drew | (refine Up.setCell ?_ (by simp; try omega) _)))⟩
  · have h0b : decide (0 < D) = false := by simpa using h0
    rw [h0b, Bool.false_and]
    (unfold Gives; go_enter Tryz.func134, Tryz.ntmps134)
    go_wp2_with (go_at_call 171; refine (HT.out _).mono ?_; intro _)
    go_ret
    exact ⟨rfl, (by repeat (first | with_reducible exact Up.refl _ | with_reducible apply Up.plus | apply Up.ext | apply Up.alloc | apply Up.drew | (refine Up.setCell ?_ (by simp; try omega) _)))⟩
theorem wrfield_any {k : KndD} {p : Int × Int} (hk : KBd k) (hp : PBd p) (hs : k.sc = false) (w : World) : Gives Tryz.prog 309 #[.agg (postA k), .agg #[.int .i64 (p.1), .int .i64 (p.2)]] w (.bool (fieldK k p)) := by
  have HR := hide (fun W => wreaches_any hk hp W)
  unfold fieldK
  rw [hs, Bool.not_false, Bool.true_or, Bool.and_true]
  generalize reachK k p = R at *
  unfold postA at *
  generalize k.wx = wx at *
  generalize k.wy = wy at *
  generalize k.far = fr at *
  generalize k.err = er at *
  clear hk hp hs
  (unfold Gives; go_enter Tryz.func309, Tryz.ntmps309)
  go_wp2_with (go_at_call 308; refine (HR.out _).mono ?_; intro _)
  go_ret
  exact ⟨rfl, (by repeat (first | with_reducible exact Up.refl _ | with_reducible apply Up.plus | apply Up.ext | apply Up.alloc | apply Up.drew | (refine Up.setCell ?_ (by simp; try omega) _)))⟩
theorem wsfield_any {k : KndD} {p : Int × Int} (hk : KBd k) (hp : PBd p) (hs : k.sc = true) (w : World) : Gives Tryz.prog 315 #[.agg (scopeA k), .agg #[.int .i64 (p.1), .int .i64 (p.2)]] w (.bool (fieldK k p)) := by
  have HR := hide (fun W => wreaches_any hk hp W)
  have HW := hide (fun W => wwithin2_any hk hp hk.wide.1 hk.wide.2 W)
  unfold fieldK
  rw [hs, Bool.not_true, Bool.false_or]
  generalize reachK k p = R at *
  generalize withinK k p k.wide = T at *
  unfold postA scopeA at *
  generalize k.wx = wx at *
  generalize k.wy = wy at *
  generalize k.far = fr at *
  generalize k.err = er at *
  generalize k.dx = dx at *
  generalize k.dy = dy at *
  generalize k.lo = lo at *
  generalize k.hi = hi at *
  generalize k.wide = wd at *
  clear hk hp hs
  cases R
  all_goals
    (unfold Gives; go_enter Tryz.func315, Tryz.ntmps315)
    go_wp2_with (first | (go_at_call 308; refine (HR.out _).mono ?_; intro _) | (go_at_call 134; refine (HW.out _).mono ?_; intro _))
    go_ret
    exact ⟨rfl, (by repeat (first | with_reducible exact Up.refl _ | with_reducible apply Up.plus | apply Up.ext | apply Up.alloc | apply Up.drew | (refine Up.setCell ?_ (by simp; try omega) _)))⟩
end Go.Proofs.YtnaiaodnnmhdkaaGreat

/- Plain facts of what is seen and read of areas: places of an area, areas with a place in common, ranges. No program. -/
namespace Go.Proofs.YtnaiaodnnmhdkaaGreat
set_option linter.unusedVariables false
set_option linter.unusedSimpArgs false
open Go.RowKit

/-- a linear function is at least 0 in a rectangle where it is at its corners -/
theorem lin_corners {α β γ x0 x1 y0 y1 x y : Int} (hx0 : x0 ≤ x) (hx1 : x ≤ x1) (hy0 : y0 ≤ y) (hy1 : y ≤ y1) (h1 : 0 ≤ α * x0 + β * y0 + γ) (h2 : 0 ≤ α * x0 + β * y1 + γ) (h3 : 0 ≤ α * x1 + β * y0 + γ) (h4 : 0 ≤ α * x1 + β * y1 + γ) : 0 ≤ α * x + β * y + γ := by
  have ax : α * x0 ≤ α * x ∨ α * x1 ≤ α * x := by
    rcases Int.le_total 0 α with h | h
    · exact .inl (Int.mul_le_mul_of_nonneg_left hx0 h)
    · exact .inr (Int.mul_le_mul_of_nonpos_left h hx1)
  have ay : β * y0 ≤ β * y ∨ β * y1 ≤ β * y := by
    rcases Int.le_total 0 β with h | h
    · exact .inl (Int.mul_le_mul_of_nonneg_left hy0 h)
    · exact .inr (Int.mul_le_mul_of_nonpos_left h hy1)
  omega
def InA (q : Int × Int) (a : Ar4) : Prop := (a.1 ≤ q.1 ∧ q.1 ≤ a.2.1) ∧ a.2.2.1 ≤ q.2 ∧ q.2 ≤ a.2.2.2
def ABd (a : Ar4) : Prop := (-33554432 ≤ a.1 ∧ a.1 ≤ a.2.1 ∧ a.2.1 ≤ 33554432) ∧ -33554432 ≤ a.2.2.1 ∧ a.2.2.1 ≤ a.2.2.2 ∧ a.2.2.2 ≤ 33554432
theorem areaB_iff (a : Ar4) : areaB a = true ↔ ABd a := by
  unfold areaB ABd
  simp only [Bool.and_eq_true, decide_eq_true_eq, nearV_iff]
  omega
theorem InA.bd {q : Int × Int} {a : Ar4} (h : InA q a) (ha : ABd a) : PBd q := by
  obtain ⟨⟨h1, h2⟩, h3, h4⟩ := h
  obtain ⟨⟨a1, a2, a3⟩, b1, b2, b3⟩ := ha
  unfold PBd
  omega
theorem corner_in {a : Ar4} (ha : ABd a) : ∀ p ∈ cornersA a, InA p a := by
  obtain ⟨⟨a1, a2, a3⟩, b1, b2, b3⟩ := ha
  intro p hp
  simp only [cornersA, List.mem_cons, List.not_mem_nil, or_false] at hp
  rcases hp with rfl | rfl | rfl | rfl <;> (unfold InA; dsimp only; omega)
/-- a d + b c is linear in the place -/
theorem lin_at (k : KndD) (m n g : Int) (p : Int × Int) : m * crK k p + n * doK k p + g = (n * k.dx - m * k.dy) * p.1 + (m * k.dx + n * k.dy) * p.2 + (g - (n * k.dx - m * k.dy) * k.wx - (m * k.dx + n * k.dy) * k.wy) := by
  unfold crK doK
  grind
theorem lin_in {k : KndD} {a : Ar4} {q : Int × Int} (hq : InA q a) (m n g : Int) (h : ∀ p ∈ cornersA a, 0 ≤ m * crK k p + n * doK k p + g) : 0 ≤ m * crK k q + n * doK k q + g := by
  rw [lin_at]
  have h1 := h (a.1, a.2.2.1) (by simp [cornersA])
  have h2 := h (a.1, a.2.2.2) (by simp [cornersA])
  have h3 := h (a.2.1, a.2.2.1) (by simp [cornersA])
  have h4 := h (a.2.1, a.2.2.2) (by simp [cornersA])
  rw [lin_at] at h1 h2 h3 h4
  exact lin_corners hq.1.1 hq.1.2 hq.2.1 hq.2.2 h1 h2 h3 h4
theorem sq_le {x a b : Int} (h1 : a ≤ x) (h2 : x ≤ b) : x * x ≤ max (a * a) (b * b) := by
  rcases Int.le_total 0 x with h | h
  · have := Int.mul_le_mul h2 h2 h (by omega)
    omega
  · have := Int.mul_le_mul (show -x ≤ -a by omega) (show -x ≤ -a by omega) (by omega) (by omega)
    rw [Int.neg_mul_neg, Int.neg_mul_neg] at this
    omega
theorem most_eq (k : KndD) (a : Ar4) : mostK k a = max (max (max (max 0 (sqK k (a.1, a.2.2.1))) (sqK k (a.1, a.2.2.2))) (sqK k (a.2.1, a.2.2.1))) (sqK k (a.2.1, a.2.2.2)) := rfl
theorem most_ge {k : KndD} {a : Ar4} {q : Int × Int} (hq : InA q a) : sqK k q ≤ mostK k a := by
  rw [most_eq]
  have h1 := sq_le (x := q.1 - k.wx) (a := a.1 - k.wx) (b := a.2.1 - k.wx) (by have := hq.1; omega) (by have := hq.1; omega)
  have h2 := sq_le (x := q.2 - k.wy) (a := a.2.2.1 - k.wy) (b := a.2.2.2 - k.wy) (by have := hq.2; omega) (by have := hq.2; omega)
  unfold sqK
  dsimp only
  omega
theorem most_le {k : KndD} {a : Ar4} {n : Int} (h0 : 0 ≤ n) (h : ∀ p ∈ cornersA a, sqK k p ≤ n) : mostK k a ≤ n := by
  rw [most_eq]
  have h1 := h (a.1, a.2.2.1) (by simp [cornersA])
  have h2 := h (a.1, a.2.2.2) (by simp [cornersA])
  have h3 := h (a.2.1, a.2.2.1) (by simp [cornersA])
  have h4 := h (a.2.1, a.2.2.2) (by simp [cornersA])
  omega
theorem near_sq {x w a b : Int} (h1 : a ≤ x) (h2 : x ≤ b) : (min (max w a) b - w) * (min (max w a) b - w) ≤ (x - w) * (x - w) := by
  rcases Int.le_total w a with h | h
  · rw [show min (max w a) b = a by omega]
    exact Int.mul_le_mul (by omega) (by omega) (by omega) (by omega)
  · rcases Int.le_total w b with h' | h'
    · rw [show min (max w a) b = w by omega, Int.sub_self, Int.zero_mul]
      rcases Int.le_total 0 (x - w) with h3 | h3
      · exact Int.mul_nonneg h3 h3
      · exact Int.mul_nonneg_of_nonpos_of_nonpos h3 h3
    · rw [show min (max w a) b = b by omega]
      have := Int.mul_le_mul (show w - b ≤ w - x by omega) (show w - b ≤ w - x by omega) (by omega) (by omega)
      have e1 : (b - w) * (b - w) = (w - b) * (w - b) := by grind
      have e2 : (x - w) * (x - w) = (w - x) * (w - x) := by grind
      omega
theorem near_le {k : KndD} {a : Ar4} {q : Int × Int} (hq : InA q a) : sqK k (nearK k a) ≤ sqK k q := by
  have h1 := near_sq (w := k.wx) hq.1.1 hq.1.2
  have h2 := near_sq (w := k.wy) hq.2.1 hq.2.2
  unfold sqK nearK
  dsimp only
  omega
theorem near_in (k : KndD) {a : Ar4} (ha : ABd a) : InA (nearK k a) a := by
  obtain ⟨⟨a1, a2, a3⟩, b1, b2, b3⟩ := ha
  unfold InA nearK
  dsimp only
  omega
theorem sq_nonneg (k : KndD) (p : Int × Int) : 0 ≤ sqK k p := by
  have h : ∀ x : Int, 0 ≤ x * x := fun x => by
    rcases Int.le_total 0 x with h3 | h3
    · exact Int.mul_nonneg h3 h3
    · exact Int.mul_nonneg_of_nonpos_of_nonpos h3 h3
  have h1 := h (p.1 - k.wx)
  have h2 := h (p.2 - k.wy)
  unfold sqK
  omega
/-- what is surely seen is seen at each place; what is seen at a place may be seen -/
theorem sure_field {k : KndD} {a : Ar4} {q : Int × Int} (hq : InA q a) (h : (cornersA a).all (fieldK k) = true) : fieldK k q = true := by
  rw [List.all_eq_true] at h
  have hf : ∀ p ∈ cornersA a, reachK k p = true ∧ (k.sc = true → withinK k p k.wide = true) := fun p hp => by
    have := h p hp
    unfold fieldK at this
    simp only [Bool.and_eq_true, Bool.or_eq_true, Bool.not_eq_true'] at this
    exact ⟨this.1, fun hs => this.2.resolve_left (by simp [hs])⟩
  unfold fieldK
  simp only [Bool.and_eq_true, Bool.or_eq_true, Bool.not_eq_true']
  refine ⟨?_, ?_⟩
  · unfold reachK
    rw [decide_eq_true_eq]
    refine Int.le_trans (most_ge hq) (most_le ?_ fun p hp => ?_)
    · have := (hf (a.1, a.2.2.1) (by simp [cornersA])).1
      unfold reachK at this
      rw [decide_eq_true_eq] at this
      have := sq_nonneg k (a.1, a.2.2.1)
      omega
    · have := (hf p hp).1
      unfold reachK at this
      rwa [decide_eq_true_eq] at this
  · cases hs : k.sc with
    | false => exact .inl rfl
    | true =>
      right
      have hw : ∀ p ∈ cornersA a, 0 < doK k p ∧ -k.wide * doK k p ≤ 1000000 * crK k p ∧ 1000000 * crK k p ≤ k.wide * doK k p := fun p hp => by
        have := (hf p hp).2 hs
        unfold withinK at this
        simpa only [Bool.and_eq_true, decide_eq_true_eq] using this
      have l1 := lin_in (k := k) hq 0 1 (-1) (fun p hp => by have := (hw p hp).1; omega)
      have l2 := lin_in (k := k) hq 1000000 k.wide 0 (fun p hp => by have := (hw p hp).2.1; rw [Int.neg_mul] at this; omega)
      have l3 := lin_in (k := k) hq (-1000000) k.wide 0 (fun p hp => by have := (hw p hp).2.2; omega)
      unfold withinK
      simp only [Bool.and_eq_true, decide_eq_true_eq]
      rw [Int.neg_mul]
      omega
theorem field_may {k : KndD} {a : Ar4} {q : Int × Int} (hq : InA q a) (h : fieldK k q = true) : mayK k a = true := by
  unfold fieldK at h
  simp only [Bool.and_eq_true, Bool.or_eq_true, Bool.not_eq_true'] at h
  unfold mayK
  simp only [Bool.and_eq_true, Bool.or_eq_true, Bool.not_eq_true']
  refine ⟨?_, ?_⟩
  · have h1 := h.1
    unfold reachK at h1 ⊢
    rw [decide_eq_true_eq] at h1 ⊢
    exact Int.le_trans (near_le hq) h1
  · cases hs : k.sc with
    | false => exact .inl rfl
    | true =>
      right
      have hw := h.2.resolve_left (by simp [hs])
      unfold withinK at hw
      simp only [Bool.and_eq_true, decide_eq_true_eq] at hw
      refine ⟨?_, ?_, ?_⟩
      · refine Bool.eq_false_iff.2 fun hc => ?_
        rw [List.all_eq_true] at hc
        have := lin_in (k := k) hq 0 (-1) 0 (fun p hp => by have := hc p hp; unfold behindK at this; rw [decide_eq_true_eq] at this; omega)
        omega
      · refine Bool.eq_false_iff.2 fun hc => ?_
        rw [List.all_eq_true] at hc
        have := lin_in (k := k) hq (-1000000) (-k.wide) (-1) (fun p hp => by have := hc p hp; unfold belowK at this; rw [decide_eq_true_eq] at this; omega)
        omega
      · refine Bool.eq_false_iff.2 fun hc => ?_
        rw [List.all_eq_true] at hc
        have := lin_in (k := k) hq 1000000 (-k.wide) (-1) (fun p hp => by have := hc p hp; unfold aboveK at this; rw [decide_eq_true_eq] at this; rw [Int.neg_mul]; omega)
        rw [Int.neg_mul] at this
        omega
/-- least and greatest of the corners' slopes -/
theorem hull_ge {k : KndD} : ∀ (l : List (Int × Int)) (o : Int × Int), (hullK k l o).1 ≤ o.1 ∧ o.2 ≤ (hullK k l o).2 ∧ ∀ p ∈ l, (hullK k l o).1 ≤ (slopeK k p).1 ∧ (slopeK k p).2 ≤ (hullK k l o).2
  | [], o => ⟨Int.le_refl _, Int.le_refl _, fun _ h => by cases h⟩
  | p :: l, o => by
    obtain ⟨h1, h2, h3⟩ := hull_ge (k := k) l (min o.1 (slopeK k p).1, max o.2 (slopeK k p).2)
    dsimp only at h1 h2
    unfold hullK
    refine ⟨by omega, by omega, fun q hq => ?_⟩
    rcases List.mem_cons.1 hq with rfl | hq
    · omega
    · exact h3 q hq
theorem slope_spec {k : KndD} {p : Int × Int} (h : 0 < doK k p) (m : Int) : (m ≤ (slopeK k p).1 ↔ m * doK k p ≤ 1000000 * crK k p) ∧ ((slopeK k p).2 ≤ m ↔ 1000000 * crK k p ≤ m * doK k p) := by
  unfold slopeK
  refine ⟨Int.le_ediv_iff_mul_le h, ?_⟩
  have := Int.le_ediv_iff_mul_le (a := -m) (b := -(1000000 * crK k p)) h
  rw [Int.neg_mul] at this
  dsimp only
  omega
theorem slope_le {k : KndD} {p : Int × Int} (h : 0 < doK k p) : (slopeK k p).1 ≤ (slopeK k p).2 := by
  have h1 := (slope_spec h (slopeK k p).1).1.1 (Int.le_refl _)
  have h2 := (slope_spec h (slopeK k p).2).2.1 (Int.le_refl _)
  refine Int.not_lt.1 fun hc => ?_
  have := Int.mul_lt_mul_of_pos_right hc h
  omega
/-- what a place in the field reads lies between the values of each area around it -/
theorem vals_scope {k : KndD} {a : Ar4} {q : Int × Int} (hk : KBd k) (hs : k.sc = true) (hq : InA q a) (h : fieldK k q = true) :
    (valuesK k a).1 ≤ (slopeK k q).1 - k.hi - k.err ∧ (slopeK k q).2 - k.lo + k.err ≤ (valuesK k a).2 ∧ (-2000000 ≤ (slopeK k q).1 - k.hi - k.err ∧ (slopeK k q).1 ≤ (slopeK k q).2) ∧ (slopeK k q).2 - k.lo + k.err ≤ 2000000 ∧ -2000000 ≤ (slopeK k q).1 - k.lo + k.err ∧ (slopeK k q).2 - k.hi - k.err ≤ 2000000 := by
  unfold fieldK at h
  simp only [Bool.and_eq_true, Bool.or_eq_true, Bool.not_eq_true'] at h
  have hw := h.2.resolve_left (by simp [hs])
  unfold withinK at hw
  simp only [Bool.and_eq_true, decide_eq_true_eq] at hw
  have s1 := (slope_spec hw.1 (-k.wide)).1.2 hw.2.1
  have s2 := (slope_spec hw.1 k.wide).2.2 hw.2.2
  have s3 := slope_le hw.1
  have b1 := hk.wide
  have b2 := hk.bias
  have b3 := hk.err
  refine ⟨?_, ?_, ⟨by omega, s3⟩, by omega, by omega, by omega⟩
  all_goals
    unfold valuesK
    rw [if_pos hs]
    by_cases hc : (cornersA a).all (frontK k) = true
    · rw [if_pos hc]
      rw [List.all_eq_true] at hc
      have hd : ∀ p ∈ cornersA a, 0 < doK k p := fun p hp => by have := hc p hp; unfold frontK at this; rwa [decide_eq_true_eq] at this
      obtain ⟨_, _, h3⟩ := hull_ge (k := k) (cornersA a) (slopeK k (a.1, a.2.2.1))
      generalize hullK k (cornersA a) (slopeK k (a.1, a.2.2.1)) = H at *
      have l1 := lin_in (k := k) hq 1000000 (-H.1) 0 (fun p hp => by have := (slope_spec (hd p hp) H.1).1.1 (h3 p hp).1; rw [Int.neg_mul]; omega)
      have l2 := lin_in (k := k) hq (-1000000) H.2 0 (fun p hp => by have := (slope_spec (hd p hp) H.2).2.1 (h3 p hp).2; omega)
      rw [Int.neg_mul] at l1
      have g1 := (slope_spec hw.1 H.1).1.2 (by omega)
      have g2 := (slope_spec hw.1 H.2).2.2 (by omega)
      dsimp only
      omega
    · rw [if_neg hc]
      dsimp only
      omega
theorem far_bd {k : KndD} (hk : KBd k) {n : Int} (h0 : 0 ≤ n) (h : n ≤ k.far * k.far) : n < 18446744073709551616 ∧ isq n ≤ 134217728 ∧ 0 ≤ isq n ∧ isq n ≤ upq n ∧ upq n ≤ 134217729 := by
  have hf := hk.far
  have h1 := Int.mul_le_mul hf.2 hf.2 (by omega) (by omega)
  have e : (134217728 : Int) * 134217728 = 18014398509481984 := by decide
  rw [e] at h1
  have hn : n < 18446744073709551616 := by omega
  obtain ⟨a0, a1, a2⟩ := isq_spec n h0 hn
  have h2 : isq n ≤ 134217728 := by
    refine Int.not_lt.1 fun hc => ?_
    have := Int.mul_le_mul (show 134217729 ≤ isq n by omega) (show 134217729 ≤ isq n by omega) (by omega) a0
    have e2 : (134217729 : Int) * 134217729 = 18014398777917441 := by decide
    omega
  obtain ⟨_, u1, _⟩ := upq_spec h0 hn
  refine ⟨hn, h2, a0, u1, ?_⟩
  unfold upq
  split <;> omega
theorem vals_radar {k : KndD} {a : Ar4} {q : Int × Int} (hk : KBd k) (ha : ABd a) (hs : k.sc = false) (hq : InA q a) (h : fieldK k q = true) :
    (valuesK k a).1 ≤ isq (sqK k q) - k.err ∧ upq (sqK k q) + k.err ≤ (valuesK k a).2 ∧ 0 ≤ isq (sqK k q) ∧ isq (sqK k q) ≤ upq (sqK k q) ∧ upq (sqK k q) ≤ 134217729 := by
  unfold fieldK at h
  simp only [Bool.and_eq_true] at h
  have hr := h.1
  unfold reachK at hr
  rw [decide_eq_true_eq] at hr
  have h0 := sq_nonneg k q
  obtain ⟨hn, i1, i2, i3, i4⟩ := far_bd hk h0 hr
  have hm : mostK k a ≤ 9290873254707200 := most_le (by omega) fun p hp => (sq_bdK hk ((corner_in ha p hp).bd ha)).2.2.2.2
  have g1 := isq_mono (sq_nonneg k (nearK k a)) (near_le (k := k) hq) hn
  have g2 := upq_mono h0 (most_ge (k := k) hq) (by omega)
  unfold valuesK
  rw [if_neg (by simp [hs])]
  dsimp only
  omega
/-- values in order where they may be seen -/
theorem isq_le_up {x y : Int} (h0 : 0 ≤ x) (h : x ≤ y) (h1 : y < 18446744073709551616) : isq x ≤ upq y := by
  have := isq_mono h0 h h1
  have := (upq_spec (x := y) (by omega) h1).2.1
  omega
theorem clamp_in {lo hi x : Int} (h1 : lo ≤ x) (h2 : x ≤ hi) (h3 : -1099511627776 ≤ x) (h4 : x ≤ 1099511627776) : clampS lo ≤ x ∧ x ≤ clampS hi := by
  unfold clampS
  omega
theorem clamp_bd (x : Int) : -1099511627776 ≤ clampS x ∧ clampS x ≤ 1099511627776 := by
  unfold clampS
  omega
theorem clamp_mono {x y : Int} (h : x ≤ y) : clampS x ≤ clampS y := by
  unfold clampS
  omega
theorem vals_ord {k : KndD} {a : Ar4} (hk : KBd k) (ha : ABd a) : (valuesK k a).1 ≤ (valuesK k a).2 := by
  have b2 := hk.bias
  have b3 := hk.err
  unfold valuesK
  by_cases hs : k.sc = true
  · rw [if_pos hs]
    by_cases hc : (cornersA a).all (frontK k) = true
    · rw [if_pos hc]
      rw [List.all_eq_true] at hc
      have hd := hc (a.1, a.2.2.1) (by simp [cornersA])
      unfold frontK at hd
      rw [decide_eq_true_eq] at hd
      obtain ⟨h1, h2, _⟩ := hull_ge (k := k) (cornersA a) (slopeK k (a.1, a.2.2.1))
      have := slope_le hd
      dsimp only
      omega
    · rw [if_neg hc]; decide
  · rw [if_neg hs]
    have hm : mostK k a ≤ 9290873254707200 := most_le (by omega) fun p hp => (sq_bdK hk ((corner_in ha p hp).bd ha)).2.2.2.2
    have := isq_le_up (sq_nonneg k (nearK k a)) (most_ge (near_in k ha)) (show mostK k a < 18446744073709551616 by omega)
    dsimp only
    omega
/-- a value that each area around a place in the field may read -/
theorem common_val {k : KndD} {a b : Ar4} {q : Int × Int} (hk : KBd k) (ha : ABd a) (hb : ABd b) (hqa : InA q a) (hqb : InA q b) (h : fieldK k q = true) :
    ∃ t, (clampS (valuesK k a).1 ≤ t ∧ t ≤ clampS (valuesK k a).2) ∧ clampS (valuesK k b).1 ≤ t ∧ t ≤ clampS (valuesK k b).2 := by
  have b2 := hk.bias
  have b3 := hk.err
  by_cases hs : k.sc = true
  · obtain ⟨h1, h2, ⟨h3, h4⟩, h5, _⟩ := vals_scope hk hs hqa h
    obtain ⟨g1, g2, _⟩ := vals_scope hk hs hqb h
    refine ⟨(slopeK k q).1 - k.hi - k.err, clamp_in h1 ?_ ?_ ?_, clamp_in g1 ?_ ?_ ?_⟩ <;> omega
  · have hs' : k.sc = false := by simpa using hs
    obtain ⟨h1, h2, h3, h4, h5⟩ := vals_radar hk ha hs' hqa h
    obtain ⟨g1, g2, _⟩ := vals_radar hk hb hs' hqb h
    refine ⟨isq (sqK k q) - k.err, clamp_in h1 ?_ ?_ ?_, clamp_in g1 ?_ ?_ ?_⟩ <;> omega
theorem reads_in {k : KndD} {a : Ar4} {q : Int × Int} (hk : KBd k) (ha : ABd a) (hq : InA q a) (h : fieldK k q = true) :
    clampS (valuesK k a).1 ≤ (readsK k q).1 ∧ (readsK k q).2 ≤ clampS (valuesK k a).2 ∧ (-2000000 ≤ (readsK k q).1 ∧ (readsK k q).1 ≤ 135000000) ∧ -2000000 ≤ (readsK k q).2 ∧ (readsK k q).2 ≤ 135000000 := by
  have b2 := hk.bias
  have b3 := hk.err
  unfold readsK
  by_cases hs : k.sc = true
  · rw [if_pos hs]
    obtain ⟨h1, h2, ⟨h3, h4⟩, h5, h6, h7⟩ := vals_scope hk hs hq h
    refine ⟨(clamp_in (x := (slopeK k q).2 - k.hi - k.err) (hi := (slopeK k q).2 - k.hi - k.err) (by omega) (by omega) (by omega) (by omega)).1, (clamp_in (lo := (slopeK k q).1 - k.lo + k.err) (x := (slopeK k q).1 - k.lo + k.err) (by omega) (by omega) (by omega) (by omega)).2, ⟨?_, ?_⟩, ?_, ?_⟩ <;> dsimp only <;> omega
  · rw [if_neg hs]
    obtain ⟨h1, h2, h3, h4, h5⟩ := vals_radar hk ha (by simpa using hs) hq h
    refine ⟨(clamp_in (x := upq (sqK k q) - k.err) (hi := upq (sqK k q) - k.err) (by omega) (by omega) (by omega) (by omega)).1, (clamp_in (lo := isq (sqK k q) + k.err) (x := isq (sqK k q) + k.err) (by omega) (by omega) (by omega) (by omega)).2, ⟨?_, ?_⟩, ?_, ?_⟩ <;> dsimp only <;> omega
end Go.Proofs.YtnaiaodnnmhdkaaGreat

