/- Several texts in one. -/
import Derived.Test.YtnaiaodnnmhdkaaGreatSpanB
/- sort.Search, and how near a segment comes in whole numbers. -/
namespace Go.Proofs.YtnaiaodnnmhdkaaGreat
set_option linter.unusedVariables false
set_option linter.unusedSimpArgs false
open Go.RowKit

/-- bisection, as sort.Search does it -/
def bis (F : Int → Bool) (i j : Nat) : Nat := if i < j then (if F (((i + j) / 2 : Nat) : Int) then bis F i ((i + j) / 2) else bis F ((i + j) / 2 + 1) j) else i
  termination_by j - i
theorem bis_eq (F : Int → Bool) (k : Nat) : ∀ n i j : Nat, j - i ≤ n → i ≤ k → k ≤ j → (∀ x : Nat, i ≤ x → x < k → F x = false) → (∀ x : Nat, k ≤ x → x < j → F x = true) → bis F i j = k := by
  intro n
  induction n with
  | zero => intro i j h0 h1 h2 _ _; rw [bis, if_neg (by omega)]; omega
  | succ n ih =>
    intro i j h0 h1 h2 h3 h4
    rw [bis]
    by_cases hij : i < j
    · rw [if_pos hij]
      by_cases hF : F (((i + j) / 2 : Nat) : Int) = true
      · rw [if_pos hF]
        have hk : k ≤ (i + j) / 2 := by
          rcases Nat.lt_or_ge ((i + j) / 2) k with h | h
          · rw [h3 _ (by omega) h] at hF; cases hF
          · exact h
        exact ih i _ (by omega) h1 hk h3 (fun x hx hx2 => h4 x hx (by omega))
      · rw [if_neg hF]
        have hk : (i + j) / 2 + 1 ≤ k := by
          rcases Nat.lt_or_ge ((i + j) / 2) k with h | h
          · exact h
          · exact absurd (h4 _ h (by omega)) hF
        exact ih _ j (by omega) hk h2 (fun x hx hx2 => h3 x (by omega) hx2) h4
    · rw [if_neg hij]; omega

/-- the least whole number r with which the segment comes within r -/
def missV (px py qx qy : Int) : Int := if asks2B px py qx qy 0 = true then (bis (comesB px py qx qy) 0 536870912 : Nat) else -1
end Go.Proofs.YtnaiaodnnmhdkaaGreat

/- The corners of areas: an iterator that ranges over pairs in a loop. No conditions. -/
namespace Go.Proofs.YtnaiaodnnmhdkaaGreat
set_option linter.unusedVariables false
set_option linter.unusedSimpArgs false
open Go.RowKit Go.Shelf

attribute [local go_sem] Oper.semAt_some

/-- the blocks of cells from B on are left as they lie -/
def KeepsFrom (B : Nat) (W W' : World) : Prop := ∀ (k : Nat) (o : Obj), B ≤ k → W.heap[k]? = some o → o.isCells = true → W'.heap[k]? = some o
theorem KeepsFrom.trans {B : Nat} {X Y Z : World} (h : KeepsFrom B X Y) (k : KeepsFrom B Y Z) : KeepsFrom B X Z := fun i o hi ho hc => k i o hi (h i o hi ho hc) hc
theorem KeepsFrom.box {B b : Nat} {W W' : World} {c : Array Value} {t : TypeId} (h : KeepsFrom B W W') (hb : B ≤ b) (x : Box W b c t) : Box W' b c t := h b _ hb x rfl
theorem KeepsFrom.put {B L : Nat} (W : World) {o : Obj} (ho : W.heap[L]? = some o) (hc : o.isCells = false) (o' : Obj) : KeepsFrom B W (W.putObj L o') := fun k p _ hk hp => by
  refine (World.putObj_heap_other ?_).trans hk
  intro e; subst e
  rw [ho] at hk; cases hk; rw [hc] at hp; cases hp

theorem ownFrom_mono {β : Type} {B C : Nat} {I : β → World → Prop} (h : OwnFrom B I) (hBC : B ≤ C) : OwnFrom C I := fun s W W' row hs hg hr => h s W W' row hs hg (fun r e => ⟨Nat.le_trans hBC (hr r e).1, (hr r e).2⟩)

/-- the mark of a range's deferred calls -/
def mark (D : Nat) : Deferred := { target := .collected D, args := #[] }
def Marks (Ds : List Nat) (w : World) : Prop := Ds.Nodup ∧ ∀ D ∈ Ds, w.heap[D]? = some (.deferred (some []))
theorem Marks.nil (w : World) : Marks [] w := ⟨List.nodup_nil, by simp⟩
theorem Marks.cons {D : Nat} {Ds : List Nat} {w : World} (h : Marks Ds w) (hD : w.heap[D]? = some (.deferred (some []))) (hn : D ∉ Ds) : Marks (D :: Ds) w :=
  ⟨List.nodup_cons.2 ⟨hn, h.1⟩, fun d hd => by rcases List.mem_cons.1 hd with rfl | hd; exact hD; exact h.2 d hd⟩
theorem Marks.of {Ds : List Nat} {w w' : World} (h : Marks Ds w) (hk : ∀ D ∈ Ds, w.heap[D]? = some (.deferred (some [])) → w'.heap[D]? = some (.deferred (some []))) : Marks Ds w' := ⟨h.1, fun D hD => hk D hD (h.2 D hD)⟩
theorem Marks.lt {Ds : List Nat} {w : World} (h : Marks Ds w) {D : Nat} (hD : D ∈ Ds) : D < w.heap.size := (Array.getElem?_eq_some_iff.1 (h.2 D hD)).1

/-- A function leaves with some marks. -/
theorem leaves_marks {F : Fence} {n : Nat} {P : Program} {fn : Func} {tmps : Array Value} {R : Ending → World → Prop} (Φ : World → Prop) (hR : ∀ w, Φ w → LeavesIn F n P fn tmps R [] .returning w) :
    ∀ (Ds : List Nat) (w : World), Marks Ds w → (∀ D ∈ Ds, ∀ w o, w.heap[D]? = some o → o.isCells = false → Φ w → Φ (w.putObj D (.deferred none))) → Φ w → LeavesInM F n P fn tmps R (Ds.map mark) .returning w := by
  intro Ds
  induction Ds with
  | nil => intro w _ _ h; exact hR w h
  | cons D Ds ih =>
    intro w hM hΦ h
    have hD := hM.2 D (by simp)
    have hnd := List.nodup_cons.1 hM.1
    exact ⟨by simp, .inl ⟨D, _, rfl, run_takeDeferred hD, ih _ ⟨hnd.2, fun d hd => (World.putObj_heap_other (by rintro rfl; exact hnd.1 hd)).trans (hM.2 d (by simp [hd]))⟩ (fun d hd => hΦ d (by simp [hd])) (hΦ D (by simp) w _ hD rfl h)⟩⟩

abbrev Ar1 := Int × Int × Int × Int
def fourA (a : Ar1) : List (Int × Int) := four a.1 a.2.1 a.2.2.1 a.2.2.2
def ofA (a : Ar1) : List Value := [.int .i64 a.1, .int .i64 a.2.1, .int .i64 a.2.2.1, .int .i64 a.2.2.2]
def cornersL (l : List Ar1) : List (Int × Int) := l.flatMap fourA

theorem corners_take (l : List Ar1) (k : Nat) (hk : k < l.length) : cornersL (l.take k) ++ fourA l[k] = cornersL (l.take (k + 1)) := by
  unfold cornersL
  rw [← List.take_append_getElem hk, List.flatMap_append]
  simp
theorem corners_pre (l : List Ar1) (k : Nat) : cornersL (l.take k) <+: cornersL l := by
  unfold cornersL
  have : l = l.take k ++ l.drop k := (List.take_append_drop k l).symm
  conv => rhs; rw [this, List.flatMap_append]
  exact List.prefix_append _ _

end Go.Proofs.YtnaiaodnnmhdkaaGreat

/- What surely stays clear of the origin. -/
namespace Go.Proofs.YtnaiaodnnmhdkaaGreat
set_option linter.unusedVariables false
set_option linter.unusedSimpArgs false
open Go.RowKit Go.Shelf

attribute [local go_sem] Oper.semAt_some

def okA (a : Ar1) : Prop := farA a.1 a.2.1 a.2.2.1 a.2.2.2 = true
theorem farV_corners {l : List Ar1} (h : ∀ a ∈ l, okA a) : ∀ q ∈ cornersL l, farV q = true := by
  intro q hq
  unfold cornersL at hq
  rw [List.mem_flatMap] at hq
  obtain ⟨a, ha, hq⟩ := hq
  have := h a ha
  unfold okA farA at this
  simp only [Bool.and_eq_true] at this
  obtain ⟨h1, h2⟩ := mem_four hq
  unfold farV
  rcases h1 with h1 | h1 <;> rcases h2 with h2 | h2 <;> rw [h1, h2] <;> simp [this]

def cells8 (a b : Ar1) : Array Value := #[.int .i64 a.1, .int .i64 a.2.1, .int .i64 a.2.2.1, .int .i64 a.2.2.2, .int .i64 b.1, .int .i64 b.2.1, .int .i64 b.2.2.1, .int .i64 b.2.2.2]
def firstB (p : Int × Int) (a b : Ar1) : Bool := (cornersL [a, b]).all fun q => !decide (crossV p.1 p.2 q.1 q.2 < 0)

def rightB (a b : Ar1) (r : Int) : Bool := (areaE a.1 a.2.1 a.2.2.1 a.2.2.2 == 0 && areaE b.1 b.2.1 b.2.2.1 b.2.2.2 == 0) && withinB r 0 268435456
theorem right_ok {a b : Ar1} {r : Int} (h : rightB a b r = true) : okA a ∧ okA b ∧ 0 ≤ r ∧ r ≤ 268435456 := by
  unfold rightB at h
  simp only [Bool.and_eq_true, beq_iff_eq, withinB, decide_eq_true_eq] at h
  have g : ∀ c : Ar1, areaE c.1 c.2.1 c.2.2.1 c.2.2.2 = 0 → okA c := fun c hc => by
    unfold areaE at hc
    split at hc
    · split at hc
      · assumption
      · omega
    · exact absurd hc (by assumption)
  exact ⟨g a h.1.1, g b h.1.2, h.2⟩

/-- no segment between two of the corners comes within r -/
def apartB (a b : Ar1) (r : Int) : Bool := (cornersL [a, b]).all fun p => (cornersL [a, b]).all fun q => !comesB p.1 p.2 q.1 q.2 r
/-- of no corner all corners lie on one side -/
def amidB (a b : Ar1) : Bool := (cornersL [a, b]).all fun p => !firstB p a b
def clearB (a b : Ar1) (r : Int) : Bool := rightB a b r && (apartB a b r && !amidB a b)

theorem all_false {α : Type} {F : α → Bool} {pre xs : List α} (h : pre <+: xs) (h1 : pre.all F = false) : xs.all F = false := by
  obtain ⟨post, hpost⟩ := h
  rw [← hpost, List.all_append, h1]
  rfl
theorem keepsOthers_grown {A W W' : World} {row : Option Nat} (h : KeepsOthers A W) (hg : W.grownBy W' row) (hr : ∀ r, row = some r → A.heap.size ≤ r) : KeepsOthers A W' :=
  ⟨Nat.le_trans h.size hg.size, fun k o ho hc => (hg.block k (Nat.lt_of_lt_of_le (Array.getElem?_eq_some_iff.1 ho).1 h.size) (fun e => by have := hr k e.symm; have := (Array.getElem?_eq_some_iff.1 ho).1; omega)).trans (h.same k o ho hc)⟩
theorem keepsFrom_grown {B : Nat} {A W : World} (hg : A.grownBy W none) : KeepsFrom B A W := fun k o _ ho _ => (hg.block k (Array.getElem?_eq_some_iff.1 ho).1 (by simp)).trans ho
theorem grown_transC {A W W' : World} (h : A.grownBy W none) (hg : W.grownBy W' none) : A.grownBy W' none := grown_turn h hg (fun r e => by cases e)
theorem grown_of_up {A W : World} (h : Up A W) : A.grownBy W none := grown_up (grown_refl A none) h
theorem below_none {A W W' : World} (h : Below A.heap.size A W) (hg : W.grownBy W' none) : Below A.heap.size A W' := h.grown hg h.size (fun k e => by cases e)

end Go.Proofs.YtnaiaodnnmhdkaaGreat

/- Plain facts about what comes within r of the origin; least numbers. No program. -/
namespace Go.Proofs.YtnaiaodnnmhdkaaGreat
set_option linter.unusedVariables false
set_option linter.unusedSimpArgs false
open Go.RowKit

theorem comes_mono {px py qx qy r s : Int} (h0 : 0 ≤ r) (hrs : r ≤ s) (h : comesB px py qx qy r = true) : comesB px py qx qy s = true := by
  have h2 : r * r ≤ s * s := Int.mul_le_mul hrs hrs h0 (by omega)
  unfold comesB at h ⊢
  split
  · rename_i c1; rw [if_pos c1] at h; simp only [decide_eq_true_eq] at h ⊢; omega
  · rename_i c1
    rw [if_neg c1] at h
    split
    · rename_i c2; rw [if_pos c2] at h; simp only [decide_eq_true_eq] at h ⊢; omega
    · rename_i c2
      rw [if_neg c2] at h
      simp only [decide_eq_true_eq] at h ⊢
      have hL : 0 ≤ sqV (qx - px) (qy - py) := by unfold sqV; have := mul_self_nonneg (qx - px); have := mul_self_nonneg (qy - py); omega
      exact Int.le_trans h (Int.mul_le_mul_of_nonneg_right h2 hL)

theorem cauchy (a b c d : Int) : (a * d - b * c) * (a * d - b * c) + (a * c + b * d) * (a * c + b * d) = (a * a + b * b) * (c * c + d * d) := by grind

/-- if an end is near, the segment comes near -/
theorem comes_p {px py qx qy r : Int} (h : sqV px py ≤ r * r) : comesB px py qx qy r = true := by
  unfold comesB
  split
  · simpa using h
  · rename_i c1
    obtain ⟨dx, hdx⟩ : ∃ dx, qx - px = dx := ⟨_, rfl⟩
    obtain ⟨dy, hdy⟩ : ∃ dy, qy - py = dy := ⟨_, rfl⟩
    obtain rfl : qx = px + dx := by omega
    obtain rfl : qy = py + dy := by omega
    rw [hdx, hdy] at *
    have hd := mul_self_nonneg dx
    have hd2 := mul_self_nonneg dy
    split
    · rename_i c2
      have e : sqV px py = sqV (px + dx) (py + dy) - 2 * ((px + dx) * dx + (py + dy) * dy) + (dx * dx + dy * dy) := by unfold sqV; grind
      simp only [decide_eq_true_eq]; omega
    · rename_i c2
      simp only [decide_eq_true_eq]
      have e : px * (py + dy) - py * (px + dx) = px * dy - py * dx := by grind
      rw [e]
      have hc := cauchy px py dx dy
      have hs := mul_self_nonneg (px * dx + py * dy)
      have hm : (px * px + py * py) * (dx * dx + dy * dy) ≤ r * r * sqV dx dy := Int.mul_le_mul_of_nonneg_right h (by omega)
      omega

/-- the order of the ends does not matter -/
theorem comes_swap (px py qx qy r : Int) : comesB qx qy px py r = comesB px py qx qy r := by
  obtain ⟨dx, hdx⟩ : ∃ dx, qx - px = dx := ⟨_, rfl⟩
  obtain ⟨dy, hdy⟩ : ∃ dy, qy - py = dy := ⟨_, rfl⟩
  obtain rfl : qx = px + dx := by omega
  obtain rfl : qy = py + dy := by omega
  unfold comesB
  obtain ⟨L, hL⟩ : ∃ L, dx * dx + dy * dy = L := ⟨_, rfl⟩
  obtain ⟨m, hm⟩ : ∃ m, px * dx + py * dy = m := ⟨_, rfl⟩
  have hL0 : 0 ≤ L := by have := mul_self_nonneg dx; have := mul_self_nonneg dy; omega
  have e1 : (px + dx) * (px - (px + dx)) + (py + dy) * (py - (py + dy)) = -(m + L) := by rw [← hm, ← hL]; grind
  have e2 : px * (px - (px + dx)) + py * (py - (py + dy)) = -m := by rw [← hm]; grind
  have e3 : px * (px + dx - px) + py * (py + dy - py) = m := by rw [← hm]; grind
  have e4 : (px + dx) * (px + dx - px) + (py + dy) * (py + dy - py) = m + L := by rw [← hm, ← hL]; grind
  have e5 : sqV (px - (px + dx)) (py - (py + dy)) = sqV (px + dx - px) (py + dy - py) := by unfold sqV; grind
  have e6 : ((px + dx) * py - (py + dy) * px) * ((px + dx) * py - (py + dy) * px) = (px * (py + dy) - py * (px + dx)) * (px * (py + dy) - py * (px + dx)) := by grind
  rw [e1, e2, e3, e4, e5, e6]
  by_cases h1 : 0 ≤ m
  · by_cases h2 : m + L = 0
    · have hm0 : m = 0 := by omega
      have hL1 : L = 0 := by omega
      have hx : dx * dx = 0 := by have := mul_self_nonneg dx; have := mul_self_nonneg dy; omega
      have hy : dy * dy = 0 := by have := mul_self_nonneg dx; have := mul_self_nonneg dy; omega
      have hx0 : dx = 0 := by rcases Int.mul_eq_zero.1 hx with h | h <;> exact h
      have hy0 : dy = 0 := by rcases Int.mul_eq_zero.1 hy with h | h <;> exact h
      rw [if_pos h1, if_pos (by omega), hx0, hy0, Int.add_zero, Int.add_zero]
    · rw [if_pos h1, if_neg (by omega), if_pos (by omega)]
  · by_cases h2 : m + L ≤ 0
    · rw [if_neg h1, if_pos h2, if_pos (by omega)]
    · rw [if_neg h1, if_neg h2, if_neg (by omega), if_neg (by omega)]

theorem comes_q {px py qx qy r : Int} (h : sqV qx qy ≤ r * r) : comesB px py qx qy r = true := by
  rw [← comes_swap]; exact comes_p h

/-- the least number at which F holds -/
theorem least (F : Int → Bool) (n : Nat) : ∃ k : Nat, k ≤ n ∧ (∀ x : Nat, x < k → F x = false) ∧ (k < n → F k = true) := by
  induction n with
  | zero => exact ⟨0, by omega, by omega, by omega⟩
  | succ n ih =>
    obtain ⟨k, h1, h2, h3⟩ := ih
    by_cases hk : k < n
    · exact ⟨k, by omega, h2, fun _ => h3 hk⟩
    · have hkn : k = n := by omega
      subst hkn
      by_cases hF : F (k : Int) = true
      · exact ⟨k, by omega, h2, fun _ => hF⟩
      · refine ⟨k + 1, by omega, fun x hx => ?_, by omega⟩
        by_cases hxk : x = k
        · subst hxk; exact Bool.eq_false_iff.2 hF
        · exact h2 x (by omega)

/-- what missV is: below it the segment does not come within, from it on it does -/
theorem bis_comes (px py qx qy : Int) : let T := bis (comesB px py qx qy) 0 536870912
    T ≤ 536870912 ∧ (∀ x : Nat, x < T → comesB px py qx qy x = false) ∧ (T < 536870912 → ∀ x : Int, (T : Int) ≤ x → comesB px py qx qy x = true) := by
  obtain ⟨k, h1, h2, h3⟩ := least (comesB px py qx qy) 536870912
  have hmono : k < 536870912 → ∀ x : Int, (k : Int) ≤ x → comesB px py qx qy x = true := fun hk x hx => comes_mono (by omega) hx (h3 hk)
  have e := bis_eq (comesB px py qx qy) k 536870912 0 536870912 (by omega) (by omega) h1 (fun x _ hx => h2 x hx) (fun x hx hx2 => hmono (by omega) x (by omega))
  simp only [e]
  exact ⟨h1, h2, hmono⟩

theorem near_all {px py : Int} (p0 : -268435456 ≤ px) (p1 : px ≤ 268435456) (p2 : -268435456 ≤ py) (p3 : py ≤ 268435456) : sqV px py ≤ 536870911 * 536870911 := by
  have h1 := mul_bd (x := px) (y := px) p0 p1 p0 p1
  have h2 := mul_bd (x := py) (y := py) p2 p3 p2 p3
  unfold sqV; omega
end Go.Proofs.YtnaiaodnnmhdkaaGreat

/- The chapter's examples that each law asks. -/
namespace Go.Proofs.YtnaiaodnnmhdkaaGreat
set_option linter.unusedVariables false
set_option linter.unusedSimpArgs false
open Go.RowKit

theorem awake_mul : mulS (-2) 3 (-5) 4 = (-15, 12, 0) := by decide +kernel
theorem awake_clear : clearB (5, 6, -9, -8) (5, 6, 8, 9) 4 = true := by decide +kernel
theorem miss_eq {px py qx qy k : Int} (h : asks2B px py qx qy 0 = true) (hk0 : 0 ≤ k) (hk1 : k < 536870912) (hF : comesB px py qx qy k = true) (hN : k = 0 ∨ comesB px py qx qy (k - 1) = false) : missV px py qx qy = k := by
  unfold missV
  rw [if_pos h]
  obtain ⟨n, rfl⟩ := Int.eq_ofNat_of_zero_le hk0
  congr 1
  refine bis_eq _ n 536870912 0 _ (by omega) (by omega) (by omega) (fun x _ hx => ?_) (fun x hx _ => comes_mono hk0 (by omega) hF)
  rcases hN with h | h
  · omega
  · rcases hx2 : comesB px py qx qy x with _ | _
    · rfl
    · have := comes_mono (s := (n : Int) - 1) (by omega) (by omega) hx2
      rw [h] at this; cases this
theorem awake_miss : missV 2 3 10 3 = 4 := miss_eq (by decide +kernel) (by omega) (by omega) (by decide +kernel) (.inr (by decide +kernel))

end Go.Proofs.YtnaiaodnnmhdkaaGreat

/- The document's own functions about places, distances and wide products: what they return. -/
namespace Go.Proofs.YtnaiaodnnmhdkaaGreat
set_option linter.unusedVariables false
set_option linter.unusedSimpArgs false
open Go.RowKit

theorem rbetween_any (n lo hi : Int) (w : World) : Gives Tryz.prog 255 #[.int .i64 n, .int .i64 lo, .int .i64 hi] w (.bool (withinB n lo hi)) := by
  (unfold Gives; go_enter Tryz.func255, Tryz.ntmps255)
  go_wp2
  all_goals go_ret
  all_goals refine ⟨ret_bool ?_, Up.refl _⟩
  all_goals (simp [withinB]; omega)

theorem rfar_any (n : Int) (w : World) : Gives Tryz.prog 239 #[.int .i64 n] w (.bool (farB n)) := by
  (unfold Gives; go_enter Tryz.func239, Tryz.ntmps239)
  go_wp2_with (go_at_call 255; refine (rbetween_any _ _ _ _).mono ?_; intro _)
  go_ret
  exact ⟨rfl, (by repeat (first | with_reducible exact Up.refl _ | with_reducible apply Up.plus | apply Up.ext | apply Up.alloc | apply Up.drew | (refine Up.setCell ?_ (by simp; try omega) _)))⟩

theorem rsize_any (n : Int) (h0 : -9223372036854775808 ≤ n) (h1 : n ≤ 9223372036854775807) (w : World) : Gives Tryz.prog 273 #[.int .i64 n] w (.int .u64 (n.natAbs : Int)) := by
  (unfold Gives; go_enter Tryz.func273, Tryz.ntmps273)
  go_wp2
  all_goals (go_ret; refine ⟨ret_int ?_, (by repeat (first | with_reducible exact Up.refl _ | with_reducible apply Up.plus | apply Up.ext | apply Up.alloc | apply Up.drew | (refine Up.setCell ?_ (by simp; try omega) _)))⟩)
  · rw [IntKind.wrap_u64, IntKind.wrap_u64]; omega
  · omega

/-- is a product below 0 -/
def negW (a b : Int) : Bool := decide (a * b < 0)
theorem neg_split (a b : Int) : decide (a * b < 0) = ((decide (a < 0) != decide (b < 0)) && (decide (0 < (a.natAbs : Int) * b.natAbs / 18446744073709551616) || decide (0 < (a.natAbs : Int) * b.natAbs % 18446744073709551616))) := by
  have hpos : (0 < (a.natAbs : Int) * b.natAbs / 18446744073709551616 ∨ 0 < (a.natAbs : Int) * b.natAbs % 18446744073709551616) ↔ 0 < (a.natAbs : Int) * b.natAbs := by
    have : 0 ≤ (a.natAbs : Int) * b.natAbs := Int.mul_nonneg (by omega) (by omega)
    omega
  rw [← Bool.decide_or, show decide (0 < (a.natAbs : Int) * b.natAbs / 18446744073709551616 ∨ 0 < (a.natAbs : Int) * b.natAbs % 18446744073709551616) = decide (0 < (a.natAbs : Int) * b.natAbs) from decide_eq_decide.2 hpos]
  have habs : (a.natAbs : Int) * b.natAbs = ((a * b).natAbs : Int) := by rw [Int.natAbs_mul]; exact (Int.natCast_mul _ _).symm
  simp only [habs]
  clear hpos habs
  by_cases ha : a < 0
  · by_cases hb : b < 0
    · have := Int.mul_pos_of_neg_of_neg ha hb
      simp [ha, hb]; omega
    · rcases Int.lt_or_eq_of_le (show 0 ≤ b by omega) with h | h
      · have := Int.mul_neg_of_neg_of_pos ha h
        simp [ha, hb, this]; omega
      · subst h; simp
  · by_cases hb : b < 0
    · rcases Int.lt_or_eq_of_le (show 0 ≤ a by omega) with h | h
      · have := Int.mul_neg_of_pos_of_neg h hb
        simp [ha, hb, this]; omega
      · subst h; simp
    · have := Int.mul_nonneg (show 0 ≤ a by omega) (show 0 ≤ b by omega)
      simp [ha, hb]; omega

theorem rwide_any (a b : Int) (ha0 : -9223372036854775808 ≤ a) (ha1 : a ≤ 9223372036854775807) (hb0 : -9223372036854775808 ≤ b) (hb1 : b ≤ 9223372036854775807) (w : World) :
    Gives Tryz.prog 261 #[.int .i64 a, .int .i64 b] w
      (.agg #[.bool (negW a b), .int .u64 ((a.natAbs : Int) * b.natAbs / 18446744073709551616), .int .u64 ((a.natAbs : Int) * b.natAbs % 18446744073709551616)]) := by
  unfold negW
  rw [neg_split]
  (unfold Gives; go_enter Tryz.func261, Tryz.ntmps261)
  go_wp2_with (first | (go_at_call 273; refine (rsize_any _ (by omega) (by omega) _).mono ?_; intro _) | (go_at_call 272; refine (mul64_any _ _ (by omega) (by omega) (by omega) (by omega) _).mono ?_; intro _))
  all_goals (refine bodyPost_give (by repeat (first | with_reducible exact Up.refl _ | with_reducible apply Up.plus | apply Up.ext | apply Up.alloc | apply Up.drew | (refine Up.setCell ?_ (by simp; try omega) _))) rfl ⟨_, (by simp [results, Tryz.results261, go_sem]; rfl), ?_⟩)
  all_goals (by_cases ha : a < 0 <;> by_cases hb : b < 0 <;> first | (simp_all; done) | (simp_all; omega))

def orderW (h l h' l' : Int) : Int := if lessW h l h' l' = true then -1 else if h = h' ∧ l = l' then 0 else 1
theorem order_split (x y : Int) : decide (orderW (x / 18446744073709551616) (x % 18446744073709551616) (y / 18446744073709551616) (y % 18446744073709551616) ≤ 0) = decide (x ≤ y) := by
  unfold orderW
  rw [less_split]
  refine decide_eq_decide.2 ?_
  simp only [decide_eq_true_eq]
  split
  · omega
  · split <;> omega

end Go.Proofs.YtnaiaodnnmhdkaaGreat

