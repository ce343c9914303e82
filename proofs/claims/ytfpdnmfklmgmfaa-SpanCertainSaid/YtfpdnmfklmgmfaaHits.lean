/- What surely comes within r of the origin: the program's way. -/
import Derived.Test.YtfpdnmfklmgmfaaClear
import Derived.Stop.RegionWithIn
namespace Go.Proofs.Ytfpdnmfklmgmfaa
open Go.RowKit Go.Shelf

attribute [local go_sem] Oper.semAt_some

/-- all four numbers, 8 times too great -/
def okB (a : Ar) : Prop := (-2147483648 ≤ a.1 ∧ a.1 ≤ 2147483648) ∧ (-2147483648 ≤ a.2.1 ∧ a.2.1 ≤ 2147483648) ∧ (-2147483648 ≤ a.2.2.1 ∧ a.2.2.1 ≤ 2147483648) ∧ (-2147483648 ≤ a.2.2.2 ∧ a.2.2.2 ≤ 2147483648)
def bigV (p : Int × Int) : Prop := (-2147483648 ≤ p.1 ∧ p.1 ≤ 2147483648) ∧ (-2147483648 ≤ p.2 ∧ p.2 ≤ 2147483648)
theorem big_corners {a : Ar} (h : okB a) : ∀ q ∈ cornersL [a], bigV q := by
  intro q hq
  unfold cornersL at hq
  simp only [List.flatMap_cons, List.flatMap_nil, List.append_nil] at hq
  obtain ⟨h0, h1, h2, h3⟩ := h
  obtain ⟨e1, e2⟩ := mem_four hq
  unfold bigV
  rcases e1 with e1 | e1 <;> rcases e2 with e2 | e2 <;> rw [e1, e2] <;> omega
theorem corners1a_seq (B Bs s : Nat) (a : Ar) (t : TypeId) (w : World) (hBs : B ≤ Bs) (hs : B ≤ s) (x1 : Box w Bs #[.slice (some ⟨s, 0, none⟩) 1 1] 128) (x2 : Box w s #[.int .i64 a.1, .int .i64 a.2.1, .int .i64 a.2.2.1, .int .i64 a.2.2.2] t) :
    SeqN Fence.wide Try.prog 124 #[.pointer (some ⟨Bs, 0, none⟩)] (fun x : Int × Int => #[.agg #[.int .i64 x.1, .int .i64 x.2]]) (KeepsFrom B) (cornersL [a]) w :=
  corners1_seq B Bs s [a] _ t w hBs hs x1 x2 (by simp) (fun k hk => by
    have : k = 0 := by simp at hk; omega
    subst this
    exact ⟨rfl, rfl, rfl, rfl⟩)

theorem mag_mul2 (a : Int) : (a.natAbs : Int) * a.natAbs = a * a := Int.natAbs_mul_self' a

def allB (a : Ar) (r : Int) : Bool := (cornersL [a]).all fun q => !decide (8 * r * (8 * r) < q.1 * q.1 + q.2 * q.2)

set_option maxHeartbeats 4000000 in
theorem all_in (a : Ar) (r : Int) (ha : okB a) (r0 : 0 ≤ r) (r1 : r ≤ 268435456) (w : World) :
    CallsIn Fence.wide 0 Try.prog 104 #[.agg #[.int .i64 a.1, .int .i64 a.2.1, .int .i64 a.2.2.1, .int .i64 a.2.2.2], .int .i64 r] w
      fun e w' => e = .returned (.bool (allB a r)) ∧ Below w.heap.size w w' := by
  have hq := big_corners ha
  have HQ := hide hq
  clear hq
  obtain ⟨R, hR⟩ : ∃ R, 8 * r = R := ⟨_, rfl⟩
  have R0 : 0 ≤ R := by omega
  have R1 : R ≤ 2147483648 := by omega
  (refine callsIn_of_wp_marks Try.func104 rfl trivial ?_ rfl; simp only [Try.ntmps104, List.size_toArray, List.length_cons, List.length_nil, Nat.reduceAdd, Nat.reduceSub, Array.replicate_succ, Array.replicate_zero, List.push_toArray, List.append_toArray, List.nil_append, List.cons_append])
  gi_wp2_with (first | (refine ⟨trivial, rfl, ?_⟩; gi_at_call 111; refine (callsIn_wide.2 (corners_any _ _ _)).mono ?_; rintro _ _ ⟨rfl, rfl⟩) | (refine ⟨trivial, rfl, ?_⟩; gi_at_call 114; refine (callsIn_wide.2 (size_any _ (by omega) (by omega) _)).mono ?_; rintro _ _ ⟨rfl, px, rfl⟩))
  have RR : (R.natAbs : Int) = R := by omega
  obtain ⟨wl, hwl⟩ : ∃ wl, ((((ext ((w.alloc (.cells #[.int .i64 a.1, .int .i64 a.2.1, .int .i64 a.2.2.1, .int .i64 a.2.2.2] 44)).alloc (.cells #[.bool false] 4)) px).alloc (.cells #[.int .u64 (R.natAbs : Int)] 78)).alloc (.cells #[.int .i64 a.1, .int .i64 a.2.1, .int .i64 a.2.2.1, .int .i64 a.2.2.2] 44)).alloc (.cells #[.slice (some ⟨w.heap.size + 1 + 1 + px.os.size + 1, 0, none⟩) 1 1] 128)) = wl := ⟨_, rfl⟩
  obtain ⟨O, hO⟩ : ∃ O, w.heap.size + 1 + 1 + px.os.size = O := ⟨_, rfl⟩
  have xr : Box wl (w.heap.size + 1) #[.bool false] 4 := by rw [← hwl]; exact (((((Box.mk (by simp)).ext _).alloc _).alloc _).alloc _)
  have xl : Box wl O #[.int .u64 R] 78 := by rw [← hwl, ← hO, RR]; exact (((Box.mk (by simp)).alloc _).alloc _)
  have xs : Box wl (O + 1) #[.int .i64 a.1, .int .i64 a.2.1, .int .i64 a.2.2.1, .int .i64 a.2.2.2] 44 := by rw [← hwl, ← hO]; exact ((Box.mk (by simp)).alloc _)
  have xb : Box wl (O + 1 + 1) #[.slice (some ⟨O + 1, 0, none⟩) 1 1] 128 := by rw [← hwl, ← hO]; exact Box.mk (by simp)
  have hsz : wl.heap.size = O + 1 + 1 + 1 := by rw [← hwl, ← hO]; simp
  have hB : Below w.heap.size w wl := by
    rw [← hwl]
    exact Up.below (by repeat (first | with_reducible exact Up.refl _ | apply Up.ext | apply Up.alloc))
  rw [hwl, hO]
  have hOl : w.heap.size + 1 + 1 ≤ O := by omega
  clear hO hwl
  refine range_outer rfl (fun _ => trivial) rfl (gf := 124) (lb := #[.pointer (some ⟨O + 1 + 1, 0, none⟩)]) rfl (enters_of Try.func124 (by kernel_rfl) rfl)
    (corners1a_seq (O + 1) _ _ a _ wl (by omega) (by omega) xb xs) (fun h k => h.trans k)
    (fun W L o o' _ ho hc => KeepsFrom.put W ho hc o') (Below.refl _ _) (fun _ => rfl) (Nat.zero_le _)
    (fun pre W => (pre.all fun q => !decide (R * R < q.1 * q.1 + q.2 * q.2)) = true ∧ wl.grownBy W none)
    (fun c' pre W => c' = .ret ∧ (pre.all fun q => !decide (R * R < q.1 * q.1 + q.2 * q.2)) = false ∧ Below w.heap.size w W ∧ Box W (w.heap.size + 1) #[.bool false] 4)
    ?hI ?hIx ⟨rfl, grown_refl _ _⟩
    (fun x => [.cells #[.int .i64 x.1, .int .i64 x.2] 23])
    (fun x z => { tmps := #[.agg #[.int .i64 a.1, .int .i64 a.2.1, .int .i64 a.2.2.1, .int .i64 a.2.2.2], .int .i64 r, .pointer (some ⟨w.heap.size, 0, none⟩), undef, .pointer (some ⟨w.heap.size + 1, 0, none⟩), .pointer (some ⟨O, 0, none⟩), .pointer (some ⟨z, 0, none⟩), undef, undef, .int .i64 r, .int .i64 R, .int .u64 R, .agg #[.int .i64 a.1, .int .i64 a.2.1, .int .i64 a.2.2.1, .int .i64 a.2.2.2], .slice (some ⟨O + 1, 0, none⟩) 1 1,
      .func (.func 124) #[] #[.pointer (some ⟨O + 1 + 1, 0, none⟩)], .agg #[.int .i64 x.1, .int .i64 x.2], undef, undef, undef, undef, undef, undef, undef, undef, undef, undef, undef, undef, undef, undef, undef, undef, undef], defers := [] }) ?assign ?body ?done ?stop
  case assign =>
    intro L x W K hK
    gi_wp2
    exact hK
  case hI =>
    rintro pre W W' row ⟨h1, h2⟩ hg hr
    exact ⟨h1, grown_turn h2 hg (fun r e => (hr r e).1)⟩
  case hIx =>
    rintro c' pre W W' row ⟨h1, h2, h3, h4⟩ hg hr
    exact ⟨h1, h2, h3.grown hg h3.size (fun k e => by have := (hr k e).1; omega), h4.grown hg (fun e => by have := (hr _ e).1; omega)⟩
  case body =>
    rintro L pre x W hL _ ⟨h1, h2⟩ hnx
    obtain ⟨x0, x1⟩ := HQ.out x (hnx.subset (by simp))
    have hw0 := h2.size
    have bl := xl.grown h2 (by simp)
    have br := xr.grown h2 (by simp)
    have c0 := bl.cell 0 rfl
    have cr := br.cell 0 rfl
    have fr := br.frozen 0
    have ll := bl.lt
    have lr := br.lt
    have HX := hide (And.intro h1 (And.intro h2 br))
    clear h1 h2 hnx bl br xl xr xs xb
    dsimp only [news, List.foldl]
    obtain ⟨X, hX⟩ : ∃ X, (x.1.natAbs : Int) = X := ⟨_, rfl⟩
    obtain ⟨Y, hY⟩ : ∃ Y, (x.2.natAbs : Int) = Y := ⟨_, rfl⟩
    have eX : X * X = x.1 * x.1 := by rw [← hX, mag_mul2]
    have eY : Y * Y = x.2 * x.2 := by rw [← hY, mag_mul2]
    have X0 : 0 ≤ X ∧ X ≤ 2147483648 := by omega
    have Y0 : 0 ≤ Y ∧ Y ≤ 2147483648 := by omega
    have m1 := mul_bd (x := X) (y := X) (B := 2147483648) (C := 2147483648) (by omega) (by omega) (by omega) (by omega)
    have m2 := mul_bd (x := Y) (y := Y) (B := 2147483648) (C := 2147483648) (by omega) (by omega) (by omega) (by omega)
    have m3 := mul_bd (x := R) (y := R) (B := 2147483648) (C := 2147483648) (by omega) (by omega) (by omega) (by omega)
    have m4 := mul_self_nonneg X
    have m5 := mul_self_nonneg Y
    have m6 := mul_self_nonneg R
    have HE := hide (show x.1 * x.1 + x.2 * x.2 = X * X + Y * Y by rw [eX, eY])
    clear eX eY
    by_cases hgt : R * R < X * X + Y * Y
    · gi_wp2
      gi_region_with (refine ⟨trivial, rfl, ?_⟩; gi_at_call 114; refine (CallsIn.inRound L (callsIn_wide.2 (size_any _ (by omega) (by omega) _))).mono ?_; rintro _ _ ⟨rfl, _, rfl⟩)
      all_goals gi_wp2
      all_goals obtain ⟨h1, h2, hbr⟩ := HX.out
      all_goals refine ⟨above_of ((KeepsOthers.setCell _ _ _).trans (keepsOthers_up (((Up.refl _).alloc _).ext _))) 0, rfl, by rw [List.all_append]; simp [HE.out, hgt], ?_, ((hbr.set 0 (.bool false)).alloc _).ext _⟩
      all_goals exact ((hB.grown h2 hB.size (fun k e => by cases e)).setCell (p := ⟨w.heap.size + 1, 0, none⟩) (by simp) _).trans ((((Up.refl _).alloc _).ext _).trans_below (by simp [World.setCell]; omega))
    · have hle : X * X + Y * Y ≤ R * R := by omega
      clear hgt
      gi_wp2
      gi_region_with (refine ⟨trivial, rfl, ?_⟩; gi_at_call 114; refine (CallsIn.inRound L (callsIn_wide.2 (size_any _ (by omega) (by omega) _))).mono ?_; rintro _ _ ⟨rfl, _, rfl⟩)
      all_goals gi_wp2
      all_goals obtain ⟨h1, h2, hbr⟩ := HX.out
      all_goals refine ⟨keepsOthers_up (((Up.refl _).alloc _).ext _), fun k o _ ho _ => ((((Up.refl W).alloc _).ext _).below.block k (Array.getElem?_eq_some_iff.1 ho).1).trans ho, ?_, grown_up h2 (((Up.refl _).alloc _).ext _)⟩
      all_goals (rw [List.all_append, h1]; simp [HE.out]; omega)
  case done =>
    rintro D W hD ⟨h1, h2⟩ hK
    have hw0 := h2.size
    have br := xr.grown h2 (by simp)
    have cr := br.cell 0 rfl
    have fr := br.frozen 0
    have lr := br.lt
    have HX := hide (And.intro h2 br)
    have HK := hide hK
    have HE : allB a r = true := by unfold allB; rw [hR]; exact h1
    have HC := hide HE
    clear h1 h2 br xl xr xs xb hK HE
    gi_wp2
    have hK4 := (KeepsOthers.setCell W ⟨w.heap.size + 1, 0, none⟩ (.bool true)).same D _ HK.out rfl
    refine ⟨by simp, .inl ⟨_, _, rfl, run_takeDeferred hK4, ?_⟩⟩
    have q := (HX.out.2.set 0 (.bool true)).put (D := D) (by omega) (.deferred none)
    have z := q.cell 0 (v := .bool true) rfl
    refine ⟨.bool true, ?_, by rw [HC.out], below_put ((hB.grown HX.out.1 hB.size (fun k e => by cases e)).setCell (p := ⟨w.heap.size + 1, 0, none⟩) (by simp) _) (by have := hB.size; omega) _⟩
    revert z
    generalize World.putObj _ D _ = WF
    intro z
    simp [results, Try.results104, go_sem, z]
  case stop =>
    rintro D c' pre W hD hpre ⟨rfl, h1, h2, h3⟩ hK
    have HE : allB a r = false := by
      obtain ⟨post, hpost⟩ := hpre
      unfold allB
      rw [← hpost, hR, List.all_append, h1]
      rfl
    have HC := hide HE
    have HK := hide hK
    have HX := hide (And.intro h2 h3)
    clear h1 h2 h3 hK HE xl xr xs xb hpre
    gi_wp2
    refine ⟨by simp, .inl ⟨_, _, rfl, run_takeDeferred HK.out, ?_⟩⟩
    have q := HX.out.2.put (D := D) (by omega) (.deferred none)
    have z := q.cell 0 (v := .bool false) rfl
    refine ⟨.bool false, ?_, by rw [HC.out], below_put HX.out.1 (by have := hB.size; omega) _⟩
    revert z
    generalize World.putObj _ D _ = WF
    intro z
    simp [results, Try.results104, go_sem, z]

theorem all_any (a : Ar) (r : Int) (ha : okB a) (r0 : 0 ≤ r) (r1 : r ≤ 268435456) (w : World) : Gives Try.prog 104 #[.agg #[.int .i64 a.1, .int .i64 a.2.1, .int .i64 a.2.2.1, .int .i64 a.2.2.2], .int .i64 r] w (.bool (allB a r)) :=
  Calls.mono (callsIn_wide.1 (all_in a r ha r0 r1 w)) fun _ _ ⟨he, hb⟩ => ⟨he, Up.of_below hb⟩
end Go.Proofs.Ytfpdnmfklmgmfaa
