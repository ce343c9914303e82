/- Several texts in one. -/
import Derived.Test.YtnaiaodnnmhdkaaGreatSkyU
import Derived.Test.YtnaiaodnnmhdkaaGreatRootR
import Derived.Test.YtnaiaodnnmhdkaaGreatWatchQ
import Derived.Test.YtnaiaodnnmhdkaaGreatModk
/- Reference bolideref06: numbers, squares, quotients, roots, stations and biases. Conditions: bounds, what lies in memory. -/
namespace Go.Proofs.YtnaiaodnnmhdkaaGreat
set_option linter.unusedVariables false
set_option linter.unusedSimpArgs false
open Go.RowKit Go.Shelf

theorem vbetween_any (n lo hi : Int) (w : World) : Gives Tryz.prog 71 #[.int .i64 n, .int .i64 lo, .int .i64 hi] w (.bool (withinB n lo hi)) := by
  unfold withinB
  (unfold Gives; go_enter Tryz.func71, Tryz.ntmps71)
  go_wp2
  all_goals (go_ret; refine ⟨?_, (by repeat (first | with_reducible exact Up.refl _ | with_reducible apply Up.plus | apply Up.ext | apply Up.alloc | apply Up.drew | (refine Up.setCell ?_ (by simp; try omega) _)))⟩)
  all_goals (go_light; first | (simp_all [withinB]; done) | (simp_all [withinB]; omega) | (simp_all [withinB]; repeat' split; all_goals (first | (simp_all; done) | omega | (simp_all; omega))))
theorem vclamp_any (n : Int) (w : World) : Gives Tryz.prog 169 #[.int .i64 n] w (.int .i64 (clampS n)) := by
  unfold clampS
  (unfold Gives; go_enter Tryz.func169, Tryz.ntmps169)
  go_wp2
  all_goals (go_ret; refine ⟨ret_int ?_, (by repeat (first | with_reducible exact Up.refl _ | with_reducible apply Up.plus | apply Up.ext | apply Up.alloc | apply Up.drew | (refine Up.setCell ?_ (by simp; try omega) _)))⟩)
  all_goals (first | rfl | omega)
theorem tdiv_cases {a b : Int} (hb : 0 < b) : (¬ a < a.tdiv b * b ∧ a.tdiv b = a / b ∧ a - b < a.tdiv b * b) ∨ (a < a.tdiv b * b ∧ a.tdiv b - 1 = a / b ∧ a.tdiv b * b ≤ a + b) := by
  have h1 := Int.mul_tdiv_add_tmod a b
  have h4 := Int.mul_ediv_add_emod a b
  have h5 := Int.emod_nonneg a (show b ≠ 0 by omega)
  have h6 := Int.emod_lt_of_pos a hb
  have h7 : a % b = if a.tmod b < 0 then a.tmod b + b else a.tmod b := by
    by_cases ha : a < 0
    · exact (tmod_neg a b ha hb).2.2
    · rw [Int.tmod_eq_emod_of_nonneg (by omega), if_neg (by omega)]
  have e1 : a.tdiv b * b = b * a.tdiv b := Int.mul_comm _ _
  rw [e1]
  generalize a.tmod b = t at *
  generalize a % b = e at *
  generalize a.tdiv b = q at *
  generalize a / b = r at *
  have h8 : b * q - b * r = e - t := by omega
  by_cases ht : t < 0
  · rw [if_pos ht] at h7
    right
    have h9 : b * (q - r - 1) = 0 := by
      have : b * (q - r - 1) = b * q - b * r - b := by rw [Int.mul_sub, Int.mul_sub, Int.mul_one]
      omega
    rcases Int.mul_eq_zero.1 h9 with h | h
    · omega
    · exact ⟨by omega, by omega, by omega⟩
  · rw [if_neg ht] at h7
    left
    have h9 : b * (q - r) = 0 := by
      have : b * (q - r) = b * q - b * r := Int.mul_sub _ _ _
      omega
    rcases Int.mul_eq_zero.1 h9 with h | h
    · omega
    · exact ⟨by omega, by omega, by omega⟩
theorem vfloor_any {a b : Int} (hb : 0 < b) (b1 : b ≤ 1152921504606846976) (a0 : -1152921504606846976 ≤ a ∧ a ≤ 1152921504606846976) (w : World) : Gives Tryz.prog 123 #[.int .i64 a, .int .i64 b] w (.int .i64 (a / b)) := by
  have hne : b ≠ 0 := by omega
  by_cases ha : a < 0
  · have hc := tdiv_cases (a := a) hb
    obtain ⟨q, hq⟩ : ∃ q, a.tdiv b = q := ⟨_, rfl⟩
    rw [hq] at hc
    have hq2 : -1152921504606846976 ≤ q ∧ q ≤ 1152921504606846976 := by
      have h1 := Int.natAbs_tdiv a b
      rw [hq] at h1
      have h3 : q.natAbs ≤ a.natAbs := by rw [h1]; exact Nat.div_le_self a.natAbs b.natAbs
      clear h1
      omega
    obtain ⟨m, hm⟩ : ∃ m, q * b = m := ⟨_, rfl⟩
    rw [hm] at hc
    rcases hc with ⟨h1, h2, h3⟩ | ⟨h1, h2, h3⟩
    · rw [← h2]
      clear h2
      (unfold Gives; go_enter Tryz.func123, Tryz.ntmps123)
      go_wp2
      go_ret
      exact ⟨rfl, (by repeat (first | with_reducible exact Up.refl _ | with_reducible apply Up.plus | apply Up.ext | apply Up.alloc | apply Up.drew | (refine Up.setCell ?_ (by simp; try omega) _)))⟩
    · rw [← h2]
      clear h2
      (unfold Gives; go_enter Tryz.func123, Tryz.ntmps123)
      go_wp2
      go_ret
      exact ⟨rfl, (by repeat (first | with_reducible exact Up.refl _ | with_reducible apply Up.plus | apply Up.ext | apply Up.alloc | apply Up.drew | (refine Up.setCell ?_ (by simp; try omega) _)))⟩
  · have h4 := Int.mul_ediv_add_emod a b
    have h5 := Int.emod_nonneg a hne
    have h6 := Int.emod_lt_of_pos a hb
    have h7 := Int.ediv_nonneg (a := a) (b := b) (by omega) (by omega)
    have h8 := Int.ediv_le_self (a := a) b (by omega)
    have hq := Int.tdiv_eq_ediv_of_nonneg (a := a) (b := b) (by omega)
    obtain ⟨q, hq2⟩ : ∃ q, a / b = q := ⟨_, rfl⟩
    rw [hq2] at h4 h7 h8 hq ⊢
    obtain ⟨m, hm⟩ : ∃ m, q * b = m := ⟨_, rfl⟩
    rw [Int.mul_comm b q, hm] at h4
    have h1 : ¬ a < m := by omega
    have h9 : a - b < m := by omega
    clear h4 h5 h6
    (unfold Gives; go_enter Tryz.func123, Tryz.ntmps123)
    go_wp2
    go_ret
    exact ⟨rfl, (by repeat (first | with_reducible exact Up.refl _ | with_reducible apply Up.plus | apply Up.ext | apply Up.alloc | apply Up.drew | (refine Up.setCell ?_ (by simp; try omega) _)))⟩
theorem vceil_any {a b : Int} (hb : 0 < b) (b1 : b ≤ 1152921504606846976) (a0 : -1152921504606846976 ≤ a ∧ a ≤ 1152921504606846976) (w : World) : Gives Tryz.prog 122 #[.int .i64 a, .int .i64 b] w (.int .i64 (-(-a / b))) := by
  have HF := hide (fun W => vfloor_any (a := -a) hb b1 (by omega) W)
  have h1 : -2305843009213693953 ≤ -a / b ∧ -a / b ≤ 1152921504606846976 := by
    have h4 := Int.mul_ediv_add_emod (-a) b
    have h5 := Int.emod_nonneg (-a) (show b ≠ 0 by omega)
    have h6 := Int.emod_lt_of_pos (-a) hb
    rcases Int.le_total 0 (-a / b) with h | h
    · have := Int.mul_le_mul_of_nonneg_right (show 1 ≤ b by omega) h
      omega
    · have := Int.mul_le_mul_of_nonpos_right (show 1 ≤ b by omega) h
      omega
  generalize -a / b = q at *
  (unfold Gives; go_enter Tryz.func122, Tryz.ntmps122)
  go_wp2_with (go_at_call 123; refine (HF.out _).mono ?_; intro _)
  go_ret
  exact ⟨rfl, (by repeat (first | with_reducible exact Up.refl _ | with_reducible apply Up.plus | apply Up.ext | apply Up.alloc | apply Up.drew | (refine Up.setCell ?_ (by simp; try omega) _)))⟩
theorem vsquare_any {x y : Int} (hx : -70000000 ≤ x ∧ x ≤ 70000000) (hy : -70000000 ≤ y ∧ y ≤ 70000000) (w : World) : Gives Tryz.prog 116 #[.agg #[.int .i64 (x), .int .i64 (y)]] w (.int .i64 (x * x + y * y)) := by
  have m1 := mul_abs hx.1 hx.2 hx.1 hx.2
  have m2 := mul_abs hy.1 hy.2 hy.1 hy.2
  have e : (70000000 : Int) * 70000000 = 4900000000000000 := by decide
  rw [e] at m1 m2
  (unfold Gives; go_enter Tryz.func116, Tryz.ntmps116)
  go_wp2
  go_ret
  exact ⟨rfl, (by repeat (first | with_reducible exact Up.refl _ | with_reducible apply Up.plus | apply Up.ext | apply Up.alloc | apply Up.drew | (refine Up.setCell ?_ (by simp; try omega) _)))⟩
theorem rootV_nonneg {n : Int} (h : 0 ≤ n) : rootV n = isq n := by
  unfold rootV
  rw [if_neg (by omega)]
theorem vrootup_any {n : Int} (h0 : 0 ≤ n) (h1 : n ≤ 4611686018427387904) (w : World) : Gives Tryz.prog 118 #[.int .i64 n] w (.int .i64 (upq n)) := by
  have HR := hide (fun W => rRoot_any n (by omega) (by omega) W)
  rw [rootV_nonneg h0] at HR
  obtain ⟨a0, a1, a2⟩ := isq_spec n h0 (by omega)
  unfold upq
  have a3 : isq n ≤ 4611686018427387904 := by
    rcases Int.le_total (isq n) 1 with h | h
    · omega
    · have := Int.mul_le_mul_of_nonneg_right h a0
      omega
  generalize isq n = r at *
  have a4 : 0 ≤ r * r := Int.mul_nonneg a0 a0
  clear a2
  by_cases hc : r * r < n
  · rw [if_pos hc]
    (unfold Gives; go_enter Tryz.func118, Tryz.ntmps118)
    go_wp2_with (go_at_call 119; refine (HR.out _).mono ?_; intro _)
    go_ret
    exact ⟨rfl, (by repeat (first | with_reducible exact Up.refl _ | with_reducible apply Up.plus | apply Up.ext | apply Up.alloc | apply Up.drew | (refine Up.setCell ?_ (by simp; try omega) _)))⟩
  · rw [if_neg hc]
    (unfold Gives; go_enter Tryz.func118, Tryz.ntmps118)
    go_wp2_with (go_at_call 119; refine (HR.out _).mono ?_; intro _)
    go_ret
    exact ⟨rfl, (by repeat (first | with_reducible exact Up.refl _ | with_reducible apply Up.plus | apply Up.ext | apply Up.alloc | apply Up.drew | (refine Up.setCell ?_ (by simp; try omega) _)))⟩
end Go.Proofs.YtnaiaodnnmhdkaaGreat

/- Reference bolideref06: stations, biases. Conditions: what lies in memory. -/
namespace Go.Proofs.YtnaiaodnnmhdkaaGreat
set_option linter.unusedVariables false
set_option linter.unusedSimpArgs false
open Go.RowKit Go.Shelf

theorem any_found {α : Type} {f : α → Bool} {l : List α} {k : Nat} {p : α} (hp : l[k]? = some p) (h : f p = true) : l.any f = true := List.any_eq_true.2 ⟨p, List.mem_of_getElem? hp, h⟩
theorem any_none {α : Type} {f : α → Bool} {l : List α} (h : noneYet f l l.length) : l.any f = false := by
  rw [List.any_eq_false]
  intro x hx
  obtain ⟨i, hi, rfl⟩ := List.getElem_of_mem hx
  have := h i l[i] hi (List.getElem?_eq_getElem hi)
  simpa using this
set_option maxRecDepth 100000 in
set_option maxHeartbeats 2000000 in
theorem vhas_any {K : Nat → Prop} {w : World} {a sa ca : Option Addr} {n c sn sc cn cc : Nat} {l : List (Int × Int × Int)} {home : Int} (hs : Tris K w (.slice sa sn sc) l) (id : Int) :
    Gives Tryz.prog 128 #[.agg #[.slice a n c, .int .i64 home, .slice sa sn sc, .slice ca cn cc], .int .i64 id] w (.bool (l.any fun x => x.1 == id)) := by
  have HS := hide hs
  have hm := (Tris.at hs).2.1
  have HN := hide (Tris.at hs).1
  clear hs
  (unfold Gives; go_enter Tryz.func128, Tryz.ntmps128)
  go_wp2_with fail
  refine forgetW (fun V => Up w V ∧ Box V w.heap.size #[.slice a n c, .int .i64 home, .slice sa sn sc, .slice ca cn cc] 28) ⟨(by repeat (first | with_reducible exact Up.refl _ | with_reducible apply Up.plus | apply Up.ext | apply Up.alloc | apply Up.drew | (refine Up.setCell ?_ (by simp; try omega) _))), (by repeat (first | exact Box.mk rfl | (refine Box.mk ?_; simp; done) | apply Box.ext | apply Box.drew | apply Box.alloc | apply Box.two1 | (refine Box.other ?_ (by omega) _ _)))⟩ ?_
  rintro V0 ⟨hu0, b0⟩
  have H0 := hide (show (Up w V0 ∧ Box V0 w.heap.size #[.slice a n c, .int .i64 home, .slice sa sn sc, .slice ca cn cc] 28) ∧ noneYet (fun x : Int × Int × Int => x.1 == id) l 0 from ⟨⟨hu0, b0⟩, fun i p hi _ => by omega⟩)
  clear hu0 b0
  go_loopw [5] (fun s5 wr => ∃ k : Nat, s5 = .int .i64 k ∧ k ≤ sn ∧ Hid ((Up w wr ∧ Box wr w.heap.size #[.slice a n c, .int .i64 home, .slice sa sn sc, .slice ca cn cc] 28) ∧ noneYet (fun x : Int × Int × Int => x.1 == id) l k)) (fun q _ => sn - (intOf q).toNat)
  case atStart => exact ⟨0, by go_num, by omega, H0⟩
  case round =>
    obtain ⟨k, rfl, hk, hJ⟩ := hrel
    clear H0
    have x2 := hJ.out.1.2.cell 2 rfl
    have lx := hJ.out.1.2.lt
    by_cases hlt : k < sn
    · have hkb : decide ((k : Int) < sn) = true := by simp; omega
      have hkn : decide (k < sn) = true := by simp; omega
      obtain ⟨b0, o0, p, ea, _, hb0, hp, hI, d0, d1, d2⟩ := (Tris.at (HS.out.keeps (hJ.out.1.1.keeps K))).2.2 k hlt
      subst ea
      have HP := hide hp
      clear hp hI
      obtain ⟨p0, p1, p2⟩ := p
      dsimp only at d0 d1 d2
      by_cases h1 : p0 = id
      · have h1b : (p0 == id) = true := by simpa using h1
        have HF := hide (show (l.any fun x => x.1 == id) = true from any_found HP.out h1b)
        clear h1
        go_wp2
        go_ret
        exact ⟨ret_bool (by rw [HF.out]), (by repeat (first | with_reducible exact hJ.out.1.1 | with_reducible exact Up.refl _ | apply Up.ext | apply Up.alloc | apply Up.drew | (refine Up.setCell ?_ (by simp [World.setCell]; try omega) _)))⟩
      · have h1b : (p0 == id) = false := by simpa using h1
        have HF := hide (hJ.out.2.succ HP.out h1b)
        replace h1 := hide h1
        go_wp2
        go_roundw
        case rel => exact ⟨k + 1, by go_num, by omega, hide ⟨⟨(by repeat (first | with_reducible exact hJ.out.1.1 | with_reducible exact Up.refl _ | apply Up.ext | apply Up.alloc | apply Up.drew | (refine Up.setCell ?_ (by simp [World.setCell]; try omega) _))), (by repeat (first | with_reducible exact hJ.out.1.2 | apply Box.ext | apply Box.drew | apply Box.alloc | (refine Box.other ?_ (by simp; try omega) _ _)))⟩, HF.out⟩⟩
        case measure => simp [intOf]; omega
    · have hkb : decide ((k : Int) < sn) = false := by simp; omega
      have hkn : decide (k < sn) = false := by simp; omega
      have HF := hide (show (l.any fun x => x.1 == id) = false from any_none (by have := hJ.out.2; rwa [show k = l.length by have := HN.out; omega] at this))
      go_wp2
      go_ret
      exact ⟨ret_bool (by rw [HF.out]), (by repeat (first | with_reducible exact hJ.out.1.1 | with_reducible exact Up.refl _ | apply Up.ext | apply Up.alloc | apply Up.drew | (refine Up.setCell ?_ (by simp [World.setCell]; try omega) _)))⟩
/-- the bias of a catalog, and whether there is one -/
def biasV (l : List (Int × Int × Int)) (v : Int) : (Int × Int) × Bool := match l.find? (fun x => x.1 == v) with
  | some x => (x.2, true)
  | none => ((0, 0), false)
theorem find_found {f : Int × Int × Int → Bool} : ∀ {l : List (Int × Int × Int)} {k : Nat} {p : Int × Int × Int}, noneYet f l k → l[k]? = some p → f p = true → l.find? f = some p
  | [], k, p, _, hp, _ => by simp at hp
  | x :: l, 0, p, _, hp, h => by
    obtain rfl : x = p := by simpa using hp
    rw [List.find?_cons, h]
  | x :: l, k + 1, p, hn, hp, h => by
    have hx : f x = false := hn 0 x (by omega) rfl
    rw [List.find?_cons, hx]
    exact find_found (fun i q hi hq => hn (i + 1) q (Nat.succ_lt_succ hi) (by simpa using hq)) (by simpa using hp) h
theorem biasV_found {l : List (Int × Int × Int)} {v : Int} {k : Nat} {p : Int × Int × Int} (hn : noneYet (fun x : Int × Int × Int => x.1 == v) l k) (hp : l[k]? = some p) (h : (p.1 == v) = true) : biasV l v = (p.2, true) := by
  unfold biasV
  rw [find_found hn hp h]
theorem biasV_none {l : List (Int × Int × Int)} {v : Int} (h : noneYet (fun x : Int × Int × Int => x.1 == v) l l.length) : biasV l v = ((0, 0), false) := by
  unfold biasV
  have := any_none h
  rw [List.any_eq_false] at this
  rw [List.find?_eq_none.2 (fun x hx => by simpa using this x hx)]
set_option maxRecDepth 100000 in
set_option maxHeartbeats 2000000 in
theorem vbias_any {K : Nat → Prop} {w : World} {a sa ca : Option Addr} {n c sn sc cn cc : Nat} {l : List (Int × Int × Int)} {home : Int} (hs : Tris K w (.slice ca cn cc) l) (v : Int) :
    Gives Tryz.prog 121 #[.agg #[.slice a n c, .int .i64 home, .slice sa sn sc, .slice ca cn cc], .int .i64 v] w (.tuple #[.agg #[.int .i64 ((biasV l v).1.1), .int .i64 ((biasV l v).1.2)], .bool (biasV l v).2]) := by
  have HS := hide hs
  have hm := (Tris.at hs).2.1
  have HN := hide (Tris.at hs).1
  clear hs
  (unfold Gives; go_enter Tryz.func121, Tryz.ntmps121)
  go_wp2_with fail
  refine forgetW (fun V => Up w V ∧ Box V w.heap.size #[.slice a n c, .int .i64 home, .slice sa sn sc, .slice ca cn cc] 28 ∧ Box V (w.heap.size + 1) #[.int .i64 (0), .int .i64 (0)] 38) ⟨(by repeat (first | with_reducible exact Up.refl _ | with_reducible apply Up.plus | apply Up.ext | apply Up.alloc | apply Up.drew | (refine Up.setCell ?_ (by simp; try omega) _))), (by repeat (first | exact Box.mk rfl | (refine Box.mk ?_; simp; done) | apply Box.ext | apply Box.drew | apply Box.alloc | apply Box.two1 | (refine Box.other ?_ (by omega) _ _))), (by repeat (first | exact Box.mk rfl | (refine Box.mk ?_; simp; done) | apply Box.ext | apply Box.drew | apply Box.alloc | apply Box.two1 | (refine Box.other ?_ (by omega) _ _)))⟩ ?_
  rintro V0 ⟨hu0, b0, z0⟩
  have H0 := hide (show (Up w V0 ∧ Box V0 w.heap.size #[.slice a n c, .int .i64 home, .slice sa sn sc, .slice ca cn cc] 28 ∧ Box V0 (w.heap.size + 1) #[.int .i64 (0), .int .i64 (0)] 38) ∧ noneYet (fun x : Int × Int × Int => x.1 == v) l 0 from ⟨⟨hu0, b0, z0⟩, fun i p hi _ => by omega⟩)
  clear hu0 b0 z0
  go_loopw [6] (fun s6 wr => ∃ k : Nat, s6 = .int .i64 k ∧ k ≤ cn ∧ Hid ((Up w wr ∧ Box wr w.heap.size #[.slice a n c, .int .i64 home, .slice sa sn sc, .slice ca cn cc] 28 ∧ Box wr (w.heap.size + 1) #[.int .i64 (0), .int .i64 (0)] 38) ∧ noneYet (fun x : Int × Int × Int => x.1 == v) l k)) (fun q _ => cn - (intOf q).toNat)
  case atStart => exact ⟨0, by go_num, by omega, H0⟩
  case round =>
    obtain ⟨k, rfl, hk, hJ⟩ := hrel
    clear H0
    have x3 := hJ.out.1.2.1.cell 3 rfl
    have lx := hJ.out.1.2.1.lt
    have z0 := hJ.out.1.2.2.cell 0 rfl
    have z1 := hJ.out.1.2.2.cell 1 rfl
    have fz0 := hJ.out.1.2.2.frozen 0
    have fz1 := hJ.out.1.2.2.frozen 1
    have lz := hJ.out.1.2.2.lt
    by_cases hlt : k < cn
    · have hkb : decide ((k : Int) < cn) = true := by simp; omega
      have hkn : decide (k < cn) = true := by simp; omega
      obtain ⟨b0, o0, p, ea, _, hb0, hp, hI, d0, d1, d2⟩ := (Tris.at (HS.out.keeps (hJ.out.1.1.keeps K))).2.2 k hlt
      subst ea
      have HP := hide hp
      clear hp hI
      obtain ⟨p0, p1, p2⟩ := p
      dsimp only at d0 d1 d2
      by_cases h1 : p0 = v
      · have h1b : (p0 == v) = true := by simpa using h1
        have HF := hide (biasV_found hJ.out.2 HP.out h1b)
        clear h1
        go_wp2
        refine forgetW (fun WF => Up w WF ∧ Box WF (w.heap.size + 1) #[.int .i64 (p1), .int .i64 (p2)] 38) ⟨((hJ.out.1.1.setCell (q := ⟨w.heap.size + 1, 0, none⟩) (by show w.heap.size ≤ w.heap.size + 1; omega) _).setCell (q := ⟨w.heap.size + 1, 1, none⟩) (by show w.heap.size ≤ w.heap.size + 1; omega) _), (hJ.out.1.2.2.set 0 (.int .i64 p1)).set 1 (.int .i64 p2)⟩ ?_
        rintro WF ⟨huF, hbF⟩
        have w0 := hbF.cell 0 rfl
        have w1 := hbF.cell 1 rfl
        (refine bodyPost_give huF rfl ⟨_, (by simp [results, Tryz.results121, go_sem, w0, w1]; rfl), ?_⟩)
        rw [HF.out]
      · have h1b : (p0 == v) = false := by simpa using h1
        have HF := hide (hJ.out.2.succ HP.out h1b)
        replace h1 := hide h1
        go_wp2
        go_roundw
        case rel => exact ⟨k + 1, by go_num, by omega, hide ⟨⟨(by repeat (first | with_reducible exact hJ.out.1.1 | with_reducible exact Up.refl _ | apply Up.ext | apply Up.alloc | apply Up.drew | (refine Up.setCell ?_ (by simp [World.setCell]; try omega) _))), (by repeat (first | with_reducible exact hJ.out.1.2.1 | apply Box.ext | apply Box.drew | apply Box.alloc | (refine Box.other ?_ (by simp; try omega) _ _))), (by repeat (first | with_reducible exact hJ.out.1.2.2 | apply Box.ext | apply Box.drew | apply Box.alloc | (refine Box.other ?_ (by simp; try omega) _ _)))⟩, HF.out⟩⟩
        case measure => simp [intOf]; omega
    · have hkb : decide ((k : Int) < cn) = false := by simp; omega
      have hkn : decide (k < cn) = false := by simp; omega
      have HF := hide (biasV_none (v := v) (by have := hJ.out.2; rwa [show k = l.length by have := HN.out; omega] at this))
      go_wp2
      refine forgetW (fun WF => Up w WF ∧ Box WF (w.heap.size + 1) #[.int .i64 (0), .int .i64 (0)] 38) ⟨((hJ.out.1.1.setCell (q := ⟨w.heap.size + 1, 0, none⟩) (by show w.heap.size ≤ w.heap.size + 1; omega) _).setCell (q := ⟨w.heap.size + 1, 1, none⟩) (by show w.heap.size ≤ w.heap.size + 1; omega) _), (hJ.out.1.2.2.set 0 (.int .i64 0)).set 1 (.int .i64 0)⟩ ?_
      rintro WF ⟨huF, hbF⟩
      have w0 := hbF.cell 0 rfl
      have w1 := hbF.cell 1 rfl
      (refine bodyPost_give huF rfl ⟨_, (by simp [results, Tryz.results121, go_sem, w0, w1]; rfl), ?_⟩)
      rw [HF.out]
end Go.Proofs.YtnaiaodnnmhdkaaGreat

