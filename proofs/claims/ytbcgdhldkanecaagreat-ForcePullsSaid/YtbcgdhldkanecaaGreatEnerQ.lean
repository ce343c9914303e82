/- Several texts in one. -/
import Derived.Test.YtbcgdhldkanecaaGreatForceM
import Derived.Test.YtbcgdhldkanecaaGreatForceI
import Derived.Test.YtbcgdhldkanecaaGreatSkyQ
import Derived.Test.YtbcgdhldkanecaaGreatEnergP
/- The sum of the parts, in plain Lean: exact products by thousandths, sums that never overflow, inclusion, signs. No program. -/
namespace Go.Proofs.YtbcgdhldkanecaaGreat
set_option linter.unusedVariables false
set_option linter.unusedSimpArgs false
open Go.RowKit

def mlo (a b : Sp) : Int := min (min (min (a.1 * b.1) (a.1 * b.2)) (a.2 * b.1)) (a.2 * b.2)
def mhi (a b : Sp) : Int := max (max (max (a.1 * b.1) (a.1 * b.2)) (a.2 * b.1)) (a.2 * b.2)
theorem mlo_bd {a b : Sp} {m n : Int} (ha : Ord m a) (hb : Ord n b) (m0 : 0 ≤ m) (n0 : 0 ≤ n) : -(m * n) ≤ mlo a b ∧ mlo a b ≤ mhi a b ∧ mhi a b ≤ m * n := by
  obtain ⟨a0, a1, a2⟩ := ha
  obtain ⟨b0, b1, b2⟩ := hb
  have m1 := mul_bd (x := a.1) (y := b.1) (B := m) (C := n) (by omega) (by omega) (by omega) (by omega)
  have m2 := mul_bd (x := a.1) (y := b.2) (B := m) (C := n) (by omega) (by omega) (by omega) (by omega)
  have m3 := mul_bd (x := a.2) (y := b.1) (B := m) (C := n) (by omega) (by omega) (by omega) (by omega)
  have m4 := mul_bd (x := a.2) (y := b.2) (B := m) (C := n) (by omega) (by omega) (by omega) (by omega)
  unfold mlo mhi
  omega
theorem mulP_val {a b : Sp} (ha : Ord 2000000 a) (hb : Ord 2000000 b) : mulP a b = (mlo a b, mhi a b) := by
  obtain ⟨a0, a1, a2⟩ := ha
  obtain ⟨b0, b1, b2⟩ := hb
  have v := valid_ok (check_ok (a := a.1) (b := a.2) (by omega) a1 (by omega)) (check_ok (a := b.1) (b := b.2) (by omega) b1 (by omega))
  have m1 := mul_bd (x := a.1) (y := b.1) (B := 2000000) (C := 2000000) (by omega) (by omega) (by omega) (by omega)
  have m2 := mul_bd (x := a.1) (y := b.2) (B := 2000000) (C := 2000000) (by omega) (by omega) (by omega) (by omega)
  have m3 := mul_bd (x := a.2) (y := b.1) (B := 2000000) (C := 2000000) (by omega) (by omega) (by omega) (by omega)
  have m4 := mul_bd (x := a.2) (y := b.2) (B := 2000000) (C := 2000000) (by omega) (by omega) (by omega) (by omega)
  have one : ∀ p : Int, -4000000000000 ≤ p → p ≤ 4000000000000 → mdE p 1 = (p, p, 0) := fun p h0 h1 => by
    unfold mdE ceiQ floQ
    simp only [show ¬ (1 : Int) < 0 by omega, if_false, Int.ediv_one, Int.neg_neg]
    rw [if_pos (by omega)]
  have e1 := one (a.1 * b.1) (by omega) (by omega)
  have e2 := one (a.1 * b.2) (by omega) (by omega)
  have e3 := one (a.2 * b.1) (by omega) (by omega)
  have e4 := one (a.2 * b.2) (by omega) (by omega)
  unfold mulP mulS combE four
  rw [if_pos v, if_pos (by simp only [err, e1, e2, e3, e4, if_true])]
  simp only [acc, List.foldl_cons, List.foldl_nil, e1, e2, e3, e4]
  unfold mlo mhi
  congr 1 <;> omega
theorem partP_val {a b : Sp} (ha : Ord 2000000 a) (hb : Ord 2000000 b) : partP a b = (mlo a b / 1000, -(-mhi a b / 1000)) := by
  have hbd := mlo_bd ha hb (by omega) (by omega)
  unfold partP
  rw [mulP_val ha hb, quotP_val (n := (mlo a b, mhi a b)) (r := (1000, 1000)) ⟨by simp only; omega, by simp only; omega, by simp only; omega⟩ ⟨by decide, by decide, by decide⟩]
  simp only [floQ, show ¬ (1000 : Int) < 0 by omega, if_false, Int.min_self]
theorem partP_ord {a b : Sp} (ha : Ord 1000 a) (hb : Ord 1048576 b) : Ord 1048576 (partP a b) := by
  have hbd := mlo_bd ha hb (by omega) (by omega)
  rw [partP_val (ha.mono (by omega)) (hb.mono (by omega))]
  unfold Ord
  simp only
  omega
theorem mlo_sub {a b A B : Sp} (h : Sub a A) (h' : Sub b B) : mlo A B ≤ mlo a b ∧ mhi a b ≤ mhi A B := by
  obtain ⟨h1, h2, h3⟩ := h
  obtain ⟨k1, k2, k3⟩ := h'
  have e1 := mul_between (a := A.1) (b := A.2) (c := B.1) (d := B.2) (x := a.1) (y := b.1) (by omega) (by omega) (by omega) (by omega)
  have e2 := mul_between (a := A.1) (b := A.2) (c := B.1) (d := B.2) (x := a.1) (y := b.2) (by omega) (by omega) (by omega) (by omega)
  have e3 := mul_between (a := A.1) (b := A.2) (c := B.1) (d := B.2) (x := a.2) (y := b.1) (by omega) (by omega) (by omega) (by omega)
  have e4 := mul_between (a := A.1) (b := A.2) (c := B.1) (d := B.2) (x := a.2) (y := b.2) (by omega) (by omega) (by omega) (by omega)
  unfold mlo mhi
  omega
theorem partP_sub {a b A B : Sp} (ha : Ord 1000 a) (hb : Ord 1048576 b) (hA : Ord 1000 A) (hB : Ord 1048576 B) (h : Sub a A) (h' : Sub b B) : Sub (partP a b) (partP A B) := by
  have h1 := mlo_sub h h'
  have h2 := partP_ord ha hb
  rw [partP_val (ha.mono (by omega)) (hb.mono (by omega))] at h2 ⊢
  rw [partP_val (hA.mono (by omega)) (hB.mono (by omega))]
  unfold Sub
  unfold Ord at h2
  simp only at h2 ⊢
  omega
theorem mlo_neg (a b : Sp) : mlo a (minusP b) = -mhi a b ∧ mhi a (minusP b) = -mlo a b := by
  unfold mlo mhi minusP
  simp only [Int.mul_neg]
  omega
theorem partP_neg {a b : Sp} (ha : Ord 1000 a) (hb : Ord 1048576 b) : partP a (minusP b) = minusP (partP a b) := by
  have h := mlo_neg a b
  rw [partP_val (ha.mono (by omega)) ((hb.mono (by omega)).neg), partP_val (ha.mono (by omega)) (hb.mono (by omega)), h.1, h.2]
  unfold minusP
  simp only [Int.neg_neg]

/-! ### areas -/
def plusA (a b : Ar) : Ar := (a.1 + b.1, a.2.1 + b.2.1, a.2.2.1 + b.2.2.1, a.2.2.2 + b.2.2.2)
theorem plus_ord {m n : Int} {a b : Ar} (ha : OrdA m a) (hb : OrdA n b) : OrdA (m + n) (plusA a b) := by
  obtain ⟨⟨a1, a2, a3⟩, a4, a5, a6⟩ := ha
  obtain ⟨⟨b1, b2, b3⟩, b4, b5, b6⟩ := hb
  unfold arX at *
  unfold arY at *
  unfold plusA OrdA Ord arX arY
  simp only at *
  omega
theorem OrdA.mono {m n : Int} {a : Ar} (h : OrdA m a) (hm : m ≤ n) : OrdA n a := ⟨h.1.mono hm, h.2.mono hm⟩
theorem sumP_plus {m n : Int} {a b : Ar} (ha : OrdA m a) (hb : OrdA n b) (h : m + n ≤ 1152921504606846976) (m0 : 0 ≤ m) (n0 : 0 ≤ n) : sumP a b = plusA a b := by
  have h1 := plus_ord ha hb
  obtain ⟨⟨a1, a2, a3⟩, a4, a5, a6⟩ := ha
  obtain ⟨⟨b1, b2, b3⟩, b4, b5, b6⟩ := hb
  unfold arX at *
  unfold arY at *
  unfold sumP arX arY
  simp only at *
  rw [addP_of (check_ok (by simp only; omega) (by simp only; omega) (by simp only; omega)) (check_ok (by simp only; omega) (by simp only; omega) (by simp only; omega)) (by simp only; omega) (by simp only; omega),
    addP_of (check_ok (by simp only; omega) (by simp only; omega) (by simp only; omega)) (check_ok (by simp only; omega) (by simp only; omega) (by simp only; omega)) (by simp only; omega) (by simp only; omega)]
  rfl
theorem zero_ord : OrdA 0 ((0, 0, 0, 0) : Ar) := ⟨⟨by decide, by decide, by decide⟩, by decide, by decide, by decide⟩
theorem plus_zero (a : Ar) : plusA (0, 0, 0, 0) a = a := by unfold plusA; simp
theorem sum0_two {m n : Int} {a b : Ar} (ha : OrdA m a) (hb : OrdA n b) (h : m + n ≤ 1152921504606846976) (m0 : 0 ≤ m) (n0 : 0 ≤ n) : sum0 [a, b] = plusA a b := by
  show sumP (sumP (0, 0, 0, 0) a) b = _
  rw [sumP_plus zero_ord ha (by omega) (by omega) m0, plus_zero, sumP_plus ha hb h m0 n0]
theorem sum0_three {m n k : Int} {a b c : Ar} (ha : OrdA m a) (hb : OrdA n b) (hc : OrdA k c) (h : m + n + k ≤ 1152921504606846976) (m0 : 0 ≤ m) (n0 : 0 ≤ n) (k0 : 0 ≤ k) : sum0 [a, b, c] = plusA (plusA a b) c := by
  show sumP (sumP (sumP (0, 0, 0, 0) a) b) c = _
  rw [sumP_plus zero_ord ha (by omega) (by omega) m0, plus_zero, sumP_plus ha hb (by omega) m0 n0, sumP_plus (plus_ord ha hb) hc h (by omega) k0]
theorem light_ord {l : Sp} {p : Ar} (hl : Ord 1000 l) (hp : OrdA 1048576 p) : OrdA 1048576 (lightP l p) := ⟨(partP_ord hl hp.1).neg, (partP_ord hl hp.2).neg⟩
theorem heat_ord {l : Sp} {p : Ar} (hl : Ord 1000 l) (hp : OrdA 1048576 p) : OrdA 1048576 (heatP l p) := ⟨(partP_ord hl hp.2).neg, partP_ord hl hp.1⟩
theorem light_sub {l L : Sp} {p P : Ar} (hl : Ord 1000 l) (hp : OrdA 1048576 p) (hL : Ord 1000 L) (hP : OrdA 1048576 P) (h : Sub l L) (h' : SubA p P) : SubA (lightP l p) (lightP L P) :=
  ⟨(partP_sub hl hp.1 hL hP.1 h h'.1).neg, (partP_sub hl hp.2 hL hP.2 h h'.2).neg⟩
theorem heat_sub {l L : Sp} {p P : Ar} (hl : Ord 1000 l) (hp : OrdA 1048576 p) (hL : Ord 1000 L) (hP : OrdA 1048576 P) (h : Sub l L) (h' : SubA p P) : SubA (heatP l p) (heatP L P) :=
  ⟨(partP_sub hl hp.2 hL hP.2 h h'.2).neg, partP_sub hl hp.1 hL hP.1 h h'.1⟩
theorem plus_sub {a b A B : Ar} (h : SubA a A) (h' : SubA b B) : SubA (plusA a b) (plusA A B) := by
  obtain ⟨⟨h1, h2, h3⟩, h4, h5, h6⟩ := h
  obtain ⟨⟨k1, k2, k3⟩, k4, k5, k6⟩ := h'
  unfold arX at *
  unfold arY at *
  unfold plusA SubA Sub arX arY
  simp only at *
  omega

/-! ### all that moves a body in a small world -/
theorem SmallB.mu0 {b : Bod} (h : SmallB b) : 0 ≤ b.mu ∧ b.mu ≤ 1125899906842624 := by have := h.1; omega
theorem SmallB.place {b : Bod} (h : SmallB b) (t : Int) : (-2000 ≤ (placeV b t).1 ∧ (placeV b t).1 ≤ 2000) ∧ -2000 ≤ (placeV b t).2 ∧ (placeV b t).2 ≤ 2000 := h.2.2.2 _ (placeV_mem (by have := h.2.2.1; omega) t)
theorem pullB_ord {b : Bod} (h : SmallB b) {t : Int} {a : Ar} (ha : OrdA 33554432 a) : OrdA 1048576 (pullB t a b) := by
  have h1 := h.mu0
  have h2 := h.2.1
  have hp := h.place t
  have ho := toP_ord (p := placeV b t) (by omega) (by omega) ha
  have hq := sqs_bd (r := b.radius) (by omega) (by omega) ho
  have hd := dist_bd (r := b.radius) (by omega) (by omega) ho
  unfold pullB
  rw [pullP_val h1.1 h1.2 (by omega) (by omega) (by omega) (by omega) ha]
  have l1 := lowT_ord (mu := b.mu) (x := arX (toP (placeV b t) a)) (q := (sqsL b.radius (toP (placeV b t) a), sqsH b.radius (toP (placeV b t) a))) (r := (isq (sqsL b.radius (toP (placeV b t) a)), upq (sqsH b.radius (toP (placeV b t) a)))) h1.1 ho.1.2.1 hq.1 hq.2.1 hd.1
  have l2 := lowT_ord (mu := b.mu) (x := arY (toP (placeV b t) a)) (q := (sqsL b.radius (toP (placeV b t) a), sqsH b.radius (toP (placeV b t) a))) (r := (isq (sqsL b.radius (toP (placeV b t) a)), upq (sqsH b.radius (toP (placeV b t) a)))) h1.1 ho.2.2.1 hq.1 hq.2.1 hd.1
  have d1 := @lowT_bd b.mu (arX (toP (placeV b t) a)) (sqsL b.radius (toP (placeV b t) a), sqsH b.radius (toP (placeV b t) a)) (isq (sqsL b.radius (toP (placeV b t) a)), upq (sqsH b.radius (toP (placeV b t) a)))
  have d2 := @lowT_bd b.mu (arY (toP (placeV b t) a)) (sqsL b.radius (toP (placeV b t) a), sqsH b.radius (toP (placeV b t) a)) (isq (sqsL b.radius (toP (placeV b t) a)), upq (sqsH b.radius (toP (placeV b t) a)))
  have d3 := @lowT_bd b.mu (minusP (arX (toP (placeV b t) a))) (sqsL b.radius (toP (placeV b t) a), sqsH b.radius (toP (placeV b t) a)) (isq (sqsL b.radius (toP (placeV b t) a)), upq (sqsH b.radius (toP (placeV b t) a)))
  have d4 := @lowT_bd b.mu (minusP (arY (toP (placeV b t) a))) (sqsL b.radius (toP (placeV b t) a), sqsH b.radius (toP (placeV b t) a)) (isq (sqsL b.radius (toP (placeV b t) a)), upq (sqsH b.radius (toP (placeV b t) a)))
  refine ⟨⟨?_, ?_, ?_⟩, ?_, ?_, ?_⟩ <;> simp only [arX, arY] at * <;> omega
theorem pullB_sub {b : Bod} (h : SmallB b) {t : Int} {a A : Ar} (ha : OrdA 33554432 a) (hA : OrdA 33554432 A) (hs : SubA a A) : SubA (pullB t a b) (pullB t A b) := by
  have h1 := h.mu0
  have h2 := h.2.1
  have hp := h.place t
  exact pull_sub h1.1 h1.2 (by omega) (by omega) (by omega) (by omega) ha hA hs
/-- gas, light and heat of the first, then all pulls -/
def baseS (l h : Sp) (g : Int) (p : Ar) : Ar := plusA (plusA (gasP g) (lightP l p)) (heatP h p)
def allS (l h : Sp) (g : Int) (ps : List Ar) : Ar := ps.foldl plusA (baseS l h g (ps.headD (0, 0, 0, 0)))
theorem plus_comm3 (a b c d : Ar) : plusA (plusA (plusA a b) c) d = plusA (plusA (plusA a d) b) c := by
  unfold plusA
  refine Prod.ext (by simp only; omega) (Prod.ext (by simp only; omega) (Prod.ext (by simp only; omega) (by simp only; omega)))
theorem fold_rest {l h : Sp} : ∀ (qs : List (Int × Ar)) (o : Ar) (m : Int), OrdA m o → 0 ≤ m → m + 1048576 * qs.length ≤ 1000000000000 → (∀ x ∈ qs, x.1 ≠ 0 ∧ OrdA 1048576 x.2) →
    qs.foldl (overStep l h) o = (qs.map (·.2)).foldl plusA o
  | [], _, _, _, _, _, _ => rfl
  | x :: qs, o, m, ho, m0, hm, hq => by
    obtain ⟨hx, hq1⟩ := List.forall_mem_cons.1 hq
    simp only [List.length_cons] at hm
    simp only [List.foldl_cons, List.map_cons]
    have e : overStep l h o x = plusA o x.2 := by unfold overStep; rw [if_neg hx.1, sum0_two ho hx.2 (by omega) m0 (by omega)]
    rw [e]
    exact fold_rest qs _ (m + 1048576) (plus_ord ho hx.2) (by omega) (by omega) hq1
theorem gas_ord {g : Int} (g0 : 0 ≤ g) (g1 : g ≤ 1000) : OrdA 1000 (gasP g) := by
  unfold gasP OrdA Ord arX arY
  simp only
  omega
theorem over_all {l h : Sp} {g t : Int} {a : Ar} {bs : List Bod} (hl : Ord 1000 l) (hh : Ord 1000 h) (g0 : 0 ≤ g) (g1 : g ≤ 1000) (hn : 1 ≤ bs.length ∧ bs.length ≤ 3) (hb : ∀ b ∈ bs, SmallB b) (ha : OrdA 33554432 a) :
    (pullsL t a bs).foldl (overStep l h) (gasP g) = allS l h g (bs.map (pullB t a)) := by
  match bs, hn with
  | b :: bs, hn =>
    obtain ⟨hb0, hb1⟩ := List.forall_mem_cons.1 hb
    have hp := pullB_ord hb0 (t := t) ha
    have e : pullsL t a (b :: bs) = (0, pullB t a b) :: (List.range bs.length).map (fun (i : Nat) => (((i : Int) + 1), pullB t a (bs.getD i ⟨0, 0, []⟩))) := by
      unfold pullsL
      rw [List.length_cons, List.range_succ_eq_map]
      simp [List.map_map, Function.comp_def]
    rw [e, List.foldl_cons]
    have hbase := gas_ord g0 g1
    have e2 : overStep l h (gasP g) (0, pullB t a b) = plusA (baseS l h g (pullB t a b)) (pullB t a b) := by
      unfold overStep baseS
      rw [if_pos rfl]
      simp only
      rw [sum0_two hbase hp (by omega) (by omega) (by omega), sum0_three (plus_ord hbase hp) (light_ord hl hp) (heat_ord hh hp) (by omega) (by omega) (by omega) (by omega)]
      exact (plus_comm3 _ _ _ _).symm
    have hob : OrdA (1000 + 1048576 + 1048576 + 1048576) (plusA (baseS l h g (pullB t a b)) (pullB t a b)) := plus_ord (plus_ord (plus_ord hbase (light_ord hl hp)) (heat_ord hh hp)) hp
    rw [e2, fold_rest _ _ _ hob (by omega) (by simp only [List.length_map, List.length_range, List.length_cons] at hn ⊢; omega) (fun x hx => by
      obtain ⟨i, hi, rfl⟩ := List.mem_map.1 hx
      have hi' := List.mem_range.1 hi
      refine ⟨by simp only; omega, ?_⟩
      simp only
      rw [List.getD_eq_getElem?_getD, List.getElem?_eq_getElem hi']
      exact pullB_ord (hb1 _ (List.getElem_mem hi')) ha)]
    unfold allS
    rw [List.map_cons, List.headD_cons, List.foldl_cons, List.map_map]
    congr 1
    apply List.ext_getElem
    · simp
    · intro i h1 h2
      simp
      rw [List.getElem?_eq_getElem (by simpa using h1)]
      rfl

theorem asked_small {s : SkyD} (hs : SmallSky s) {l h : Sp} {g t : Int} {a : Ar} (hl : 0 ≤ l.1 ∧ l.1 ≤ l.2 ∧ l.2 ≤ 1000) (hh : -1000 ≤ h.1 ∧ h.1 ≤ h.2 ∧ h.2 ≤ 1000) (hg : 0 ≤ g ∧ g ≤ 1000) (ht : 0 ≤ t ∧ t ≤ 1000000) (ha : OrdA 33554432 a) :
    askedE s.bodies s.home l h g t a = 0 := by
  obtain ⟨⟨x0, x1, x2⟩, y0, y1, y2⟩ := ha
  simp only [arX, arY] at x0 x1 x2 y0 y1 y2
  have hd : driftE l h g = 0 := by
    have e1 : boundedE l.1 l.2 0 1000 = 0 := by unfold boundedE; rw [if_neg (by omega), if_neg (by omega)]
    have e2 : boundedE h.1 h.2 (-1000) 1000 = 0 := by unfold boundedE; rw [if_neg (by omega), if_neg (by omega)]
    unfold driftE
    rw [if_pos e1, if_pos e2, if_pos (by simp [withinB]; omega)]
  unfold askedE
  rw [if_pos hs.world, if_pos hd, if_pos (by simp [withinB]; omega), if_pos ?_, if_pos (by simp [limB]; omega)]
  have c1 := check_ok (a := a.1) (b := a.2.1) (by omega) (by omega) (by omega)
  have c2 := check_ok (a := a.2.2.1) (b := a.2.2.2) (by omega) (by omega) (by omega)
  have hfar : farA a.1 a.2.1 a.2.2.1 a.2.2.2 = true := by unfold farA; simp [farB, withinB]; omega
  unfold areaE
  rw [if_pos (valid_ok c1 c2), if_pos hfar]
theorem one_small {s : SkyD} (hs : SmallSky s) {t : Int} {a : Ar} (ht : 0 ≤ t ∧ t ≤ 1000000) (ha : OrdA 33554432 a) {i : Nat} (hi : i < s.bodies.length) : oneV s.bodies s.home i t a = (pullB t a (s.bodies.getD i ⟨0, 0, []⟩), 0) := by
  unfold oneV
  rw [if_pos (asked_small hs ⟨by decide, by decide, by decide⟩ ⟨by decide, by decide, by decide⟩ (by omega) ht ha), if_neg (by omega)]
  rfl
theorem light_small {s : SkyD} (hs : SmallSky s) {l h : Sp} {g t : Int} {a : Ar} (hl : 0 ≤ l.1 ∧ l.1 ≤ l.2 ∧ l.2 ≤ 1000) (hh : -1000 ≤ h.1 ∧ h.1 ≤ h.2 ∧ h.2 ≤ 1000) (hg : 0 ≤ g ∧ g ≤ 1000) (ht : 0 ≤ t ∧ t ≤ 1000000) (ha : OrdA 33554432 a) :
    lightV s.bodies s.home l h g t a = (lightP l ((s.bodies.map (pullB t a)).headD (0, 0, 0, 0)), 0) := by
  unfold lightV
  rw [if_pos (asked_small hs hl hh hg ht ha)]
  have h1 := hs.num.1
  match s.bodies, h1 with
  | b :: bs, _ => rfl
theorem heat_small {s : SkyD} (hs : SmallSky s) {l h : Sp} {g t : Int} {a : Ar} (hl : 0 ≤ l.1 ∧ l.1 ≤ l.2 ∧ l.2 ≤ 1000) (hh : -1000 ≤ h.1 ∧ h.1 ≤ h.2 ∧ h.2 ≤ 1000) (hg : 0 ≤ g ∧ g ≤ 1000) (ht : 0 ≤ t ∧ t ≤ 1000000) (ha : OrdA 33554432 a) :
    heatV s.bodies s.home l h g t a = (heatP h ((s.bodies.map (pullB t a)).headD (0, 0, 0, 0)), 0) := by
  unfold heatV
  rw [if_pos (asked_small hs hl hh hg ht ha)]
  have h1 := hs.num.1
  match s.bodies, h1 with
  | b :: bs, _ => rfl
theorem over_small {s : SkyD} (hs : SmallSky s) {l h : Sp} {g t : Int} {a : Ar} (hl : 0 ≤ l.1 ∧ l.1 ≤ l.2 ∧ l.2 ≤ 1000) (hh : -1000 ≤ h.1 ∧ h.1 ≤ h.2 ∧ h.2 ≤ 1000) (hg : 0 ≤ g ∧ g ≤ 1000) (ht : 0 ≤ t ∧ t ≤ 1000000) (ha : OrdA 33554432 a) :
    overV s.bodies s.home l h g t a = (allS l h g (s.bodies.map (pullB t a)), 0) := by
  unfold overV
  rw [if_pos (asked_small hs hl hh hg ht ha), over_all ⟨by omega, hl.2.1, hl.2.2⟩ hh hg.1 hg.2 hs.num hs.bods ha]
/-- the sum of the first k parts -/
def partS (b : Ar) (ps : List Ar) (k : Nat) : Ar := (ps.take k).foldl plusA b
theorem partS_succ {b : Ar} {ps : List Ar} {k : Nat} (hk : k < ps.length) : partS b ps (k + 1) = plusA (partS b ps k) (ps.getD k (0, 0, 0, 0)) := by
  unfold partS
  rw [List.take_add_one, List.getElem?_eq_getElem hk, List.foldl_append]
  simp [List.getD, List.getElem?_eq_getElem hk]
theorem partS_all (b : Ar) (ps : List Ar) : partS b ps ps.length = ps.foldl plusA b := by unfold partS; rw [List.take_length]
theorem partS_ord {b : Ar} {ps : List Ar} {m : Int} (hb : OrdA m b) (hp : ∀ p ∈ ps, OrdA 1048576 p) : ∀ k, k ≤ ps.length → OrdA (m + 1048576 * k) (partS b ps k)
  | 0, _ => by simpa [partS] using hb
  | k + 1, hk => by
    rw [partS_succ (by omega)]
    have := plus_ord (partS_ord hb hp k (by omega)) (hp (ps.getD k (0, 0, 0, 0)) (by rw [List.getD_eq_getElem?_getD, List.getElem?_eq_getElem (by omega)]; exact List.getElem_mem _))
    exact this.mono (by omega)
theorem pulls_ord {s : SkyD} (hs : SmallSky s) (t : Int) {a : Ar} (ha : OrdA 33554432 a) : ∀ p ∈ s.bodies.map (pullB t a), OrdA 1048576 p := fun p hp => by
  obtain ⟨b, hb, rfl⟩ := List.mem_map.1 hp
  exact pullB_ord (hs.bods b hb) ha
theorem head_ord {s : SkyD} (hs : SmallSky s) (t : Int) {a : Ar} (ha : OrdA 33554432 a) : OrdA 1048576 ((s.bodies.map (pullB t a)).headD (0, 0, 0, 0)) := by
  have h1 := hs.num.1
  have h2 := pulls_ord hs t ha
  match s.bodies, h1, h2 with
  | b :: bs, _, h2 => exact h2 _ (by simp)
theorem OrdA.bds {m : Int} {a : Ar} (h : OrdA m a) : (-m ≤ a.1 ∧ a.1 ≤ a.2.1 ∧ a.2.1 ≤ m) ∧ -m ≤ a.2.2.1 ∧ a.2.2.1 ≤ a.2.2.2 ∧ a.2.2.2 ≤ m := h
end Go.Proofs.YtbcgdhldkanecaaGreat

/- Energies and rulers of a small world, in plain Lean: what the law asks. No program. -/
namespace Go.Proofs.YtbcgdhldkanecaaGreat
set_option linter.unusedVariables false
set_option linter.unusedSimpArgs false
open Go.RowKit

def rulerV (bs : List Bod) (home t px py : Int) : Int × Bool :=
  if askedE bs home (0, 0) (0, 0) 0 t (px, px, py, py) = 0 then rulerP (bs.map fun b => strengthP (pullB t (px, px, py, py) b)) else (0, false)
/-- what a body takes: in order, small, and no less for a greater mass -/
theorem take_mu {b : Bod} (hb : bodyE b = 0) {t : Int} {a : Ar} (ha : OrdA 33554432 a) {m : Int} (h0 : b.mu ≤ m) (h1 : m ≤ 1125899906842624) :
    Ord 1125899906842624 (takeP t a b) ∧ (takeP t a b).1 ≤ (takeP t a { b with mu := m }).1 ∧ (takeP t a b).2 ≤ (takeP t a { b with mu := m }).2 := by
  have hbd := bodyE_zero hb
  have hp := hbd.2.2.2.2 _ (placeV_mem hbd.2.2.1 t)
  have ho := toP_ord (p := placeV b t) hp.1 hp.2 ha
  have hd := dist_bd (r := b.radius) hbd.2.1.1 hbd.2.1.2 ho
  have hm := hbd.1
  have e1 : takeP t a b = quotP (b.mu, b.mu) (isq (sqsL b.radius (toP (placeV b t) a)), upq (sqsH b.radius (toP (placeV b t) a))) := by unfold takeP; rw [distP_val hbd.2.1.1 hbd.2.1.2 ho]
  have e2 : takeP t a { b with mu := m } = quotP (m, m) (isq (sqsL b.radius (toP (placeV b t) a)), upq (sqsH b.radius (toP (placeV b t) a))) := by
    show quotP (m, m) (distP b.radius (toP (placeV b t) a)) = _
    rw [distP_val hbd.2.1.1 hbd.2.1.2 ho]
  rw [e1, e2]
  clear e1 e2
  generalize isq (sqsL b.radius (toP (placeV b t) a)) = d1 at *
  generalize upq (sqsH b.radius (toP (placeV b t) a)) = d2 at *
  generalize b.mu = mu at *
  clear hbd hp ho ha hb
  have c1 : 0 < d1 := hd.1
  have c2 : d1 ≤ d2 := hd.2.1
  have c3 : 0 < d2 := by omega
  rw [quotP_val (n := (mu, mu)) ⟨by simp only; omega, by simp only; omega, by simp only; omega⟩ hd, quotP_val (n := (m, m)) ⟨by simp only; omega, by simp only; omega, by simp only; omega⟩ hd]
  have f1 := flo_in (p := mu) (c := d1) (m := 1125899906842624) c1 (by omega) (by omega) (by omega)
  have f2 := flo_in (p := mu) (c := d2) (m := 1125899906842624) c3 (by omega) (by omega) (by omega)
  have f3 := flo_in (p := -mu) (c := d1) (m := 1125899906842624) c1 (by omega) (by omega) (by omega)
  have f4 := flo_in (p := -mu) (c := d2) (m := 1125899906842624) c3 (by omega) (by omega) (by omega)
  have g1 : floQ mu d1 ≤ -floQ (-mu) d1 := cei_flo (by omega)
  have m1 := flo_mono (p := mu) (p' := m) c1 (by omega)
  have m2 := flo_mono (p := mu) (p' := m) c3 (by omega)
  have m3 := flo_mono (p := -m) (p' := -mu) c1 (by omega)
  have m4 := flo_mono (p := -m) (p' := -mu) c3 (by omega)
  simp only
  unfold Ord
  simp only
  clear hd
  generalize floQ mu d1 = q1 at *
  generalize floQ mu d2 = q2 at *
  generalize floQ (-mu) d1 = q3 at *
  generalize floQ (-mu) d2 = q4 at *
  generalize floQ m d1 = r1 at *
  generalize floQ m d2 = r2 at *
  generalize floQ (-m) d1 = r3 at *
  generalize floQ (-m) d2 = r4 at *
  omega
theorem sumI_set {f : Bod → Int} : ∀ (bs : List Bod) (i : Nat) (b b' : Bod), bs[i]? = some b → f b ≤ f b' → sumI (bs.map f) ≤ sumI ((bs.set i b').map f)
  | [], i, b, b', h, _ => by simp at h
  | c :: bs, 0, b, b', h, hf => by
    obtain rfl : c = b := by simpa using h
    simp only [List.set_cons_zero, List.map_cons, sumI, List.foldr_cons] at *
    omega
  | c :: bs, i + 1, b, b', h, hf => by
    have := sumI_set bs i b b' (by simpa using h) hf
    simp only [List.set_cons_succ, List.map_cons, sumI, List.foldr_cons] at *
    omega
theorem sumI_le {f g : Bod → Int} : ∀ (bs : List Bod), (∀ b ∈ bs, f b ≤ g b) → sumI (bs.map f) ≤ sumI (bs.map g)
  | [], _ => Int.le_refl _
  | b :: bs, h => by
    have h1 := sumI_le bs fun c hc => h c (by simp [hc])
    have h2 := h b (by simp)
    simp only [List.map_cons, sumI, List.foldr_cons] at *
    omega
theorem sqq_mono {x y : Int} (h0 : 0 ≤ x) (h : x ≤ y) : x * x ≤ y * y := Int.mul_le_mul h h h0 (by omega)
theorem sq_bd {x m : Int} (h0 : 0 ≤ x) (h : x ≤ m) : 0 ≤ x * x ∧ x * x ≤ m * m := ⟨Int.mul_nonneg h0 h0, sqq_mono h0 h⟩
theorem energyV_of {bs : List Bod} {home t x y u v : Int} (h : askedE bs home (0, 0) (0, 0) 0 t (x, x, y, y) = 0) (hu : -1048576 ≤ u ∧ u ≤ 1048576) (hv : -1048576 ≤ v ∧ v ≤ 1048576) : energyV bs home t x y u v = (energyP bs t (x, x, y, y) (u * u + v * v), 0) := by
  unfold energyV
  rw [if_pos h, if_pos ⟨by simp [withinB]; omega, by simp [withinB]; omega⟩]
theorem small_asked {bs : List Bod} {home t x y : Int} (hw : worldE bs home = 0) (ht : 0 ≤ t ∧ t ≤ 1000000) (hx : -2500 ≤ x ∧ x ≤ 2500) (hy : -2500 ≤ y ∧ y ≤ 2500) : askedE bs home (0, 0) (0, 0) 0 t (x, x, y, y) = 0 := by
  unfold askedE
  rw [if_pos hw, if_pos (by decide), if_pos (by simp [withinB]; omega)]
  have h0 : areaE x x y y = 0 := by
    have c1 := check_ok (a := x) (b := x) (by omega) (by omega) (by omega)
    have c2 := check_ok (a := y) (b := y) (by omega) (by omega) (by omega)
    have hfar : farA x x y y = true := by unfold farA; simp [farB, withinB]; omega
    unfold areaE
    rw [if_pos (valid_ok c1 c2), if_pos hfar]
  simp only
  rw [if_pos h0, if_pos ⟨by simp [limB]; omega, by simp [limB]; omega⟩]
theorem small_area {x y : Int} (hx : -2500 ≤ x ∧ x ≤ 2500) (hy : -2500 ≤ y ∧ y ≤ 2500) : OrdA 33554432 (x, x, y, y) := ⟨⟨by simp only [arX]; omega, by simp only [arX]; omega, by simp only [arX]; omega⟩, by simp only [arY]; omega, by simp only [arY]; omega, by simp only [arY]; omega⟩
/-- a small world, one of its masses greater -/
theorem world_set {bs : List Bod} {home : Int} (hw : worldE bs home = 0) {i : Nat} {b : Bod} (hi : bs[i]? = some b) {m : Int} (m0 : 0 ≤ m) (m1 : m ≤ 1125899906842624) : worldE (bs.set i { b with mu := m }) home = 0 := by
  obtain ⟨h1, h2, h3, h4⟩ := worldE_zero hw
  have hx := firstE_zero (f := bodyE) (l := bs.set i { b with mu := m }) fun x hx => by
    rcases List.mem_or_eq_of_mem_set hx with hx | rfl
    · exact h3 x hx
    · have hb := bodyE_zero (h3 b (List.mem_of_getElem? hi))
      obtain ⟨q1, q2, q3, q4, q5⟩ := hb
      have hq : bodyE b = 0 := h3 b (List.mem_of_getElem? hi)
      unfold bodyE at hq ⊢
      have w1 : (withinB m 0 1125899906842624 && withinB b.radius 0 1048576) = true := by simp [withinB]; omega
      have w0 : (withinB b.mu 0 1125899906842624 && withinB b.radius 0 1048576) = true := by simp [withinB]; omega
      rw [if_neg (by rw [w0]; decide)] at hq
      rw [if_neg (by simp only; rw [w1]; decide)]
      exact hq
  unfold worldE at hw ⊢
  rw [List.length_set, hx]
  rw [firstE_zero h3] at hw
  exact hw
/-- what the law asks of energies, with letters for the values -/
theorem energy_facts {bs : List Bod} {home t x y : Int} (hw : worldE bs home = 0) (ht : 0 ≤ t ∧ t ≤ 1000000) (hx : -2500 ≤ x ∧ x ≤ 2500) (hy : -2500 ≤ y ∧ y ≤ 2500)
    {u v f1 f2 : Int} (hu : 0 ≤ u ∧ u ≤ 900) (hv : -900 ≤ v ∧ v ≤ 0) (h1 : 0 ≤ f1 ∧ f1 ≤ 100) (h2 : 0 ≤ f2 ∧ f2 ≤ 100) {i : Nat} {b : Bod} (hi : bs[i]? = some b) {m : Int} (m0 : b.mu ≤ m) (m1 : m ≤ 1125899906842624) :
    ∃ a1 a2 b1 b2 c1 c2 : Int, energyV bs home t x y u v = ((a1, a2), 0) ∧ energyV bs home t x y (u + f1) (v - f2) = ((b1, b2), 0) ∧ energyV (bs.set i { b with mu := m }) home t x y (u + f1) (v - f2) = ((c1, c2), 0) ∧ (a1 ≤ a2 ∧ a1 ≤ b1 ∧ a2 ≤ b2 ∧ c1 ≤ b1 ∧ c2 ≤ b2) ∧
      worldE (bs.set i { b with mu := m }) home = 0 := by
  obtain ⟨w1, w2, w3, w4⟩ := worldE_zero hw
  have hbm := List.mem_of_getElem? hi
  have hb0 := (bodyE_zero (w3 b hbm)).1
  have hw' := world_set hw hi (m := m) (by omega) m1
  have hA := small_asked hw ht hx hy
  have hA' := small_asked hw' ht hx hy
  have ha := small_area hx hy
  obtain ⟨n, hn⟩ : ∃ n, u * u + v * v = n := ⟨_, rfl⟩
  obtain ⟨k, hk⟩ : ∃ k, (u + f1) * (u + f1) + (v - f2) * (v - f2) = k := ⟨_, rfl⟩
  have s1 := sq_bd hu.1 hu.2
  have s2 := sq_bd (x := -v) (m := 900) (by omega) (by omega)
  have s3 := sqq_mono (x := u) (y := u + f1) hu.1 (by omega)
  have s4 := sqq_mono (x := -v) (y := -(v - f2)) (by omega) (by omega)
  have s5 := sq_bd (x := u + f1) (m := 1000) (by omega) (by omega)
  have s6 := sq_bd (x := -(v - f2)) (m := 1000) (by omega) (by omega)
  simp only [Int.neg_mul_neg] at s2 s4 s6
  have n0 : 0 ≤ n ∧ n ≤ 10000000000000 := by omega
  have k0 : n ≤ k ∧ k ≤ 10000000000000 := by omega
  have hT : ∀ c ∈ bs, Ord 1125899906842624 (takeP t (x, x, y, y) c) := fun c hc => (take_mu (w3 c hc) ha (Int.le_refl _) (bodyE_zero (w3 c hc)).1.2).1
  have hT' : ∀ c ∈ bs.set i { b with mu := m }, Ord 1125899906842624 (takeP t (x, x, y, y) c) := fun c hc => by
    obtain ⟨_, _, w3', _⟩ := worldE_zero hw'
    exact (take_mu (w3' c hc) ha (Int.le_refl _) (bodyE_zero (w3' c hc)).1.2).1
  have hmu := take_mu (t := t) (w3 b hbm) ha m0 m1
  have t1 := sumI_le (f := fun c => (takeP t (x, x, y, y) c).1) (g := fun c => (takeP t (x, x, y, y) c).2) bs fun c hc => (hT c hc).2.1
  have t2 := sumI_set (f := fun c => (takeP t (x, x, y, y) c).1) bs i b { b with mu := m } hi hmu.2.1
  have t3 := sumI_set (f := fun c => (takeP t (x, x, y, y) c).2) bs i b { b with mu := m } hi hmu.2.2
  have E1 : energyV bs home t x y u v = ((n - 2 * sumI (bs.map fun c => (takeP t (x, x, y, y) c).2), n - 2 * sumI (bs.map fun c => (takeP t (x, x, y, y) c).1)), 0) := by
    rw [energyV_of hA (by omega) (by omega), hn, energy_val n0.1 n0.2 w2 hT]
  have E2 : energyV bs home t x y (u + f1) (v - f2) = ((k - 2 * sumI (bs.map fun c => (takeP t (x, x, y, y) c).2), k - 2 * sumI (bs.map fun c => (takeP t (x, x, y, y) c).1)), 0) := by
    rw [energyV_of hA (by omega) (by omega), hk, energy_val (by omega) k0.2 w2 hT]
  have E3 : energyV (bs.set i { b with mu := m }) home t x y (u + f1) (v - f2) = ((k - 2 * sumI ((bs.set i { b with mu := m }).map fun c => (takeP t (x, x, y, y) c).2), k - 2 * sumI ((bs.set i { b with mu := m }).map fun c => (takeP t (x, x, y, y) c).1)), 0) := by
    rw [energyV_of hA' (by omega) (by omega), hk, energy_val (by omega) k0.2 (by rw [List.length_set]; exact w2) hT']
  exact ⟨_, _, _, _, _, _, E1, E2, E3, by omega, hw'⟩
/-- the span of the squared sizes of a pull -/
def sizeP (p : Ar) : Sp := ((squareP (arX p)).1 + (squareP (arY p)).1, (squareP (arX p)).2 + (squareP (arY p)).2)
theorem strength_size {p : Ar} (hp : OrdA 1048576 p) : strengthP p = sizeP p ∧ 0 ≤ (sizeP p).1 ∧ (sizeP p).1 ≤ (sizeP p).2 ∧ (sizeP p).2 ≤ 9007199254740992 := by
  obtain ⟨e1, ⟨a1, a2⟩, a3⟩ := squareP_val (x := arX p) (hp.1.mono (by omega))
  obtain ⟨e2, ⟨b1, b2⟩, b3⟩ := squareP_val (x := arY p) (hp.2.mono (by omega))
  unfold strengthP sizeP
  rw [e1, e2]
  simp only
  refine ⟨addP_of (check_ok ?_ ?_ ?_) (check_ok ?_ ?_ ?_) ?_ ?_, ?_, ?_, ?_⟩ <;> (try simp only) <;> omega
theorem floQ_zero (c : Int) : floQ 0 c = 0 := by unfold floQ; simp
theorem lowT_zero (x q r : Sp) : lowT 0 x q r = 0 := by
  unfold lowT lowN
  simp only [Int.zero_mul, floQ_zero]
  rw [show cl 1152921504606846976 0 = 0 by decide]
  simp only [Int.min_self, floQ_zero]
  decide
/-- what has no mass does not pull -/
theorem pull_none {b : Bod} (h : SmallB b) {t : Int} {a : Ar} (ha : OrdA 33554432 a) (h0 : b.mu = 0) : pullB t a b = (0, 0, 0, 0) := by
  have h2 := h.2.1
  have hp := h.place t
  unfold pullB
  rw [h0, pullP_val (by omega) (by omega) (by omega) (by omega) (by omega) (by omega) ha]
  simp [lowT_zero]
theorem rulerP_true {l : List Sp} {i : Int} (h : rulerP l = (i, true)) : ∃ n : Nat, i = n ∧ n < l.length ∧ ∀ k, k < l.length → k ≠ n → (l.getD k (0, 0)).2 < (l.getD n (0, 0)).1 := by
  unfold rulerP at h
  split at h
  · rename_i n hn
    have h1 := List.find?_some hn
    have h2 := List.mem_of_find?_eq_some hn
    simp only [Prod.mk.injEq, and_true] at h
    refine ⟨n, h.symm, by simpa using h2, fun k hk hne => ?_⟩
    unfold rulesAt at h1
    rw [List.all_eq_true] at h1
    have := h1 k (by simpa using hk)
    simpa [hne] using this
  · simp at h
def bodD (bs : List Bod) (k : Nat) : Bod := bs.getD k ⟨0, 0, []⟩
theorem bodD_at {bs : List Bod} {k : Nat} {b : Bod} (h : bs[k]? = some b) : bodD bs k = b := by unfold bodD; simp [h]
theorem map_getD {β : Type} (f : Bod → β) (bs : List Bod) (d : β) {k : Nat} (hk : k < bs.length) : (bs.map f).getD k d = f (bodD bs k) := by
  unfold bodD
  simp [hk]
/-- what the law asks of a ruler, with letters for the values -/
theorem ruler_facts {bs : List Bod} {home t x y : Int} (hw : worldE bs home = 0) (hb : ∀ b ∈ bs, SmallB b) (ht : 0 ≤ t ∧ t ≤ 1000000) (hx : -2500 ≤ x ∧ x ≤ 2500) (hy : -2500 ≤ y ∧ y ≤ 2500) :
    ∃ (n : Int) (is : Bool), rulerV bs home t x y = (n, is) ∧ (is = true → ∃ k : Nat, n = k ∧ k < bs.length ∧ ((bodD bs k).mu = 0 → bs.length ≤ 1) ∧
      ∀ j, j < bs.length → j ≠ k → (sizeP (pullB t (x, x, y, y) (bodD bs j))).2 < (sizeP (pullB t (x, x, y, y) (bodD bs k))).1) := by
  have ha := small_area hx hy
  have e0 : rulerV bs home t x y = rulerP (bs.map fun b => strengthP (pullB t (x, x, y, y) b)) := by
    unfold rulerV
    rw [if_pos (small_asked hw ht hx hy)]
  obtain ⟨rn, ri, hr⟩ : ∃ (rn : Int) (ri : Bool), rulerP (bs.map fun b => strengthP (pullB t (x, x, y, y) b)) = (rn, ri) := ⟨_, _, rfl⟩
  refine ⟨rn, ri, e0.trans hr, fun h => ?_⟩
  subst h
  obtain ⟨n, e1, e2, e3⟩ := rulerP_true hr
  simp only [List.length_map] at e2 e3
  have hsm : ∀ k, k < bs.length → SmallB (bodD bs k) := fun k hk => hb _ (by unfold bodD; rw [List.getD_eq_getElem?_getD, List.getElem?_eq_getElem hk]; exact List.getElem_mem hk)
  have hst : ∀ k, k < bs.length → strengthP (pullB t (x, x, y, y) (bodD bs k)) = sizeP (pullB t (x, x, y, y) (bodD bs k)) ∧ 0 ≤ (sizeP (pullB t (x, x, y, y) (bodD bs k))).1 ∧ (sizeP (pullB t (x, x, y, y) (bodD bs k))).1 ≤ (sizeP (pullB t (x, x, y, y) (bodD bs k))).2 := fun k hk =>
    let h := strength_size (pullB_ord (hsm k hk) ha); ⟨h.1, h.2.1, h.2.2.1⟩
  have hlt : ∀ j, j < bs.length → j ≠ n → (sizeP (pullB t (x, x, y, y) (bodD bs j))).2 < (sizeP (pullB t (x, x, y, y) (bodD bs n))).1 := fun j hj hne => by
    have := e3 j hj hne
    rw [map_getD _ _ _ hj, map_getD _ _ _ e2, (hst j hj).1, (hst n e2).1] at this
    exact this
  refine ⟨n, e1, e2, fun h0 => ?_, hlt⟩
  rcases Nat.lt_or_ge 1 bs.length with h1 | h1
  · exfalso
    have hz := pull_none (hsm n e2) ha h0 (t := t)
    obtain ⟨j, hj, hne⟩ : ∃ j, j < bs.length ∧ j ≠ n := by
      rcases Nat.eq_zero_or_pos n with h2 | h2
      · exact ⟨1, h1, by omega⟩
      · exact ⟨0, by omega, by omega⟩
    have h3 := hlt j hj hne
    have h4 := (hst j hj).2
    rw [hz, show (sizeP (0, 0, 0, 0)).1 = 0 by decide +kernel] at h3
    omega
  · exact h1
end Go.Proofs.YtbcgdhldkanecaaGreat

