/- Package force: which body rules a place. Conditions: what lies in memory. -/
import Derived.Test.YtbcgdhldkanecaaGreatForceI
import Derived.Test.YtbcgdhldkanecaaGreatSkyQ
import Derived.Test.YtbcgdhldkanecaaGreatEnerQ
import Derived.LoopIn
namespace Go.Proofs.YtbcgdhldkanecaaGreat
set_option linter.unusedVariables false
set_option linter.unusedSimpArgs false
open Go.RowKit Go.Shelf

attribute [local go_sem] Oper.semAt_some

theorem ownsRow_kept {w w' : World} {base : Nat} {e : TypeId} {size : Nat} {v : Value} {n : Nat} {xs : List Value} {row : Option Nat} (h : w.ownsRow base e size v n xs) (hg : w.grownBy w' row) (hr : ∀ r, row = some r → ∃ o : Obj, w.heap[r]? = some o ∧ o.isCells = false) : w'.ownsRow base e size v n xs := by
  refine h.kept hg ?_
  rcases h.2 with ⟨rfl, _⟩ | ⟨g, cap, cur, rfl, _, hh, _⟩
  · exact .inl rfl
  · refine .inr fun e => ?_
    obtain ⟨o, ho, hc⟩ := hr g e.symm
    rw [hh] at ho
    cases ho
    cases hc

theorem Tryz.infospan : (Tryz.prog.info? 26).map (fun i => (i.zero, i.size, i.bytes)) = some (some (.agg #[.int .i64 0, .int .i64 0]), 2, 16) := by kernel_rfl
/-- an append changes the row alone -/
theorem others_row {w w' : World} {base : Nat} {e : TypeId} {size : Nat} {v : Value} {n : Nat} {xs : List Value} (h : w.ownsRow base e size v n xs) (hg : w.grownBy w' v.ownBlock) : KeepsOthers w w' :=
  ⟨hg.size, fun k o ho hc => (hg.block k (Array.getElem?_eq_some_iff.1 ho).1 (fun hb => by
    rcases h.2 with ⟨rfl, _⟩ | ⟨g, cap, cur, rfl, _, hh, _⟩
    · cases hb
    · obtain rfl : k = g := Option.some.inj hb
      rw [hh] at ho
      cases ho; cases hc)).trans ho⟩
/-- the cells of the strengths of pulls; what a round leaves -/
def RStr (x : Int × Ar) (vs : List Value) : Prop := vs = [.int .i64 (strengthP x.2).1, .int .i64 (strengthP x.2).2]
def RulI (wl : World) (T9 : Nat) (pre : List (Int × Ar)) (W : World) : Prop :=
  wl.grownBy W (some T9) ∧ ∃ (sv : Value) (xs : List Value), Box W T9 #[sv] 108 ∧ W.ownsRow wl.heap.size 26 2 sv pre.length xs ∧ RowOf 2 RStr pre xs
theorem rul_end {B0 : Nat} {wl W V U w1 : World} {T9 g cap : Nat} {pre : List (Int × Ar)} {y : Int × Ar} {sv : Value} {xs : List Value} (hB : B0 ≤ T9) (hwl : wl.heap.size = T9 + 1 + 1 + 1 + 1) (hJ : wl.grownBy W (some T9)) (b9 : Box W T9 #[sv] 108) (hx : RowOf 2 RStr pre xs)
    (hu : Up W V) (hu2 : Up V U) (o : Obj) (hoU : (U.alloc o).ownsRow wl.heap.size 26 2 sv pre.length xs)
    (hg : (U.alloc o).grownBy w1 sv.ownBlock) (hown : w1.ownsRow wl.heap.size 26 2 (.slice (some ⟨g, 0, none⟩) (pre.length + 1) cap) (pre.length + 1) (xs ++ [.int .i64 (strengthP y.2).1, .int .i64 (strengthP y.2).2])) (a' : Act) :
    leftN 0 (Keeps (KB B0 (T9 + 1) (T9 + 1 + 1) (T9 + 1 + 1 + 1))) (fun pre W => Hid (RulI wl T9 pre W)) (fun _ _ _ => False) (pre ++ [y]) W .normal a' (w1.setCell ⟨T9, 0, none⟩ (.slice (some ⟨g, 0, none⟩) (pre.length + 1) cap)) := by
  have hWU : Up W (U.alloc o) := (hu.trans hu2).alloc o
  have hrow : ∀ b, sv.ownBlock = some b → wl.heap.size ≤ b := fun b e => (hoU.lt b e).1
  have b9' : Box w1 T9 #[sv] 108 := (b9.up hWU).grown hg (fun e => by have := hrow _ e; omega)
  refine ⟨((keepsOthers_up hWU).trans (others_row hoU hg)).trans (keepsOthers_set _ _ _ _), ?_, hide ⟨?_, .slice (some ⟨g, 0, none⟩) (pre.length + 1) cap, xs ++ [.int .i64 (strengthP y.2).1, .int .i64 (strengthP y.2).2], b9'.set 0 _, ?_, ?_⟩⟩
  · refine ((hWU.keeps _).turn hg ?_).set ?_ _ _
    · intro b e hb
      have := hrow b e
      rcases hb with hb | rfl | rfl | rfl <;> omega
    · intro hb
      rcases hb with hb | hb | hb | hb <;> omega
  · exact grown_set (grown_turn (grown_up hJ hWU) hg hrow) _ _
  · rw [List.length_append]
    exact hown.kept (grown_set (grown_refl _ (some T9)) _ _) (.inr (by have := (hown.lt g rfl).1; simp [Value.ownBlock]; omega))
  · exact hx.snoc rfl rfl

/-- whether the k-th is beyond all others of m -/
def rulesF (f : Nat → Sp) (m k : Nat) : Bool := (List.range m).all fun x => x == k || decide ((f x).2 < (f k).1)
theorem rulerP_find {l : List Sp} {k : Nat} (hk : k < l.length) (h : ∀ j, j < k → rulesF (fun k => l.getD k (0, 0)) l.length j = false) (ht : rulesF (fun k => l.getD k (0, 0)) l.length k = true) : rulerP l = ((k : Int), true) := by
  have : (List.range l.length).find? (rulesAt l) = some k := List.find?_range_eq_some.2 ⟨ht, List.mem_range.2 hk, fun j hj => by have := h j hj; unfold rulesF at this; unfold rulesAt; rw [this]; rfl⟩
  unfold rulerP
  rw [this]
theorem rulerP_none {l : List Sp} (h : ∀ j, j < l.length → rulesF (fun k => l.getD k (0, 0)) l.length j = false) : rulerP l = (0, false) := by
  have : (List.range l.length).find? (rulesAt l) = none := List.find?_eq_none.2 fun j hj => by
    have := h j (List.mem_range.1 hj)
    unfold rulesF at this
    unfold rulesAt
    rw [this]
    exact Bool.false_ne_true
  unfold rulerP
  rw [this]
theorem ruler_cells {W : World} {base g cap : Nat} {t : Int} {a : Ar} {bs : List Bod} {xs : List Value} (ho : W.ownsRow base 26 2 (.slice (some ⟨g, 0, none⟩) (pullsL t a bs).length cap) (pullsL t a bs).length xs) (hx : RowOf 2 RStr (pullsL t a bs) xs) {k : Nat} (hk : k < bs.length) :
    W.cell? ⟨g, k * 2, none⟩ = some (.int .i64 (((bs.map fun b => strengthP (pullB t a b)).getD k (0, 0)).1)) ∧ W.cell? ⟨g, k * 2 + 1, none⟩ = some (.int .i64 (((bs.map fun b => strengthP (pullB t a b)).getD k (0, 0)).2)) := by
  have hp : (pullsL t a bs)[k]? = some ((k : Int), pullB t a (bs.getD k ⟨0, 0, []⟩)) := by unfold pullsL; simp [hk]
  obtain ⟨vs, h1, h2, h3⟩ := hx.cell hp
  have hS : (bs.map fun b => strengthP (pullB t a b)).getD k (0, 0) = strengthP (pullB t a (bs.getD k ⟨0, 0, []⟩)) := by simp [hk]
  rw [hS]
  have hl := pullsL_len t a bs
  have e0 := ho.cellAt (k * 2) (by rw [hl]; omega)
  have e1 := ho.cellAt (k * 2 + 1) (by rw [hl]; omega)
  subst h1
  exact ⟨e0.trans (h3 0 _ rfl), e1.trans (h3 1 _ rfl)⟩

set_option maxRecDepth 100000 in
set_option maxHeartbeats 4000000 in
theorem fRuler_in {K : Nat → Prop} {w : World} {a : Option Addr} {n c : Nat} {bs : List Bod} {home : Int} (hl0 : Bods K w (.slice a n c) bs) (hh : I64 home) (t px py : Int) (he : askedE bs home (0, 0) (0, 0) 0 t (px, px, py, py) = 0) :
    CallsIn Fence.wide 0 Tryz.prog 32 #[.agg #[.slice a n c, .int .i64 home], .int .i64 t, .agg #[.int .i64 (px), .int .i64 (py)]] w
      fun e w' => e = .returned (.tuple #[.int .i64 (rulerP (bs.map fun b => strengthP (pullB t (px, px, py, py) b))).1, .bool (rulerP (bs.map fun b => strengthP (pullB t (px, px, py, py) b))).2]) ∧ Below w.heap.size w w' := by
  have hl : Bods (· < w.heap.size) w (.slice a n c) bs := Bods.mono hl0 fun b hb _ => hb
  obtain ⟨h1, hd, ⟨t0, t1⟩, _⟩ := asked_zero he
  have HA := hide (fun W (hu : Up w W) => fasked_any (hl.keeps (hu.keeps _)) hh (0, 0) (0, 0) 0 t px px py py)
  rw [he] at HA
  have HP := hide (fun W => fpulls_any (.slice a n c) home t (px, px, py, py) W)
  have HL := hide (And.intro hl h1)
  clear hl hl0 hd he h1
  dsimp only at HA HP
  (refine callsIn_of_wp_marks Tryz.func32 rfl trivial ?_ rfl; simp only [Tryz.ntmps32, List.size_toArray, List.length_cons, List.length_nil, Nat.reduceAdd, Nat.reduceSub, Array.replicate_succ, Array.replicate_zero, List.push_toArray, List.append_toArray, List.nil_append, List.cons_append])
  gi_wp2_with (first | (refine ⟨trivial, rfl, ?_⟩; gi_at_call 53; refine (callsIn_wide.2 (falone_any _ _ _)).mono ?_; rintro _ _ ⟨rfl, p1, rfl⟩) | (refine ⟨trivial, rfl, ?_⟩; gi_at_call 39; refine (callsIn_wide.2 (HA.out _ (by repeat (first | with_reducible exact Up.refl _ | with_reducible apply Up.plus | apply Up.ext | apply Up.alloc | apply Up.drew | (refine Up.setCell ?_ (by simp; try omega) _))))).mono ?_; rintro _ _ ⟨rfl, p2, rfl⟩) | (refine ⟨trivial, rfl, ?_⟩; gi_at_call 48; refine (callsIn_wide.2 (HP.out _)).mono ?_; rintro _ _ ⟨rfl, rfl⟩))
  obtain ⟨A8, hA8⟩ : ∃ G, w.heap.size + 1 + 1 + p1.os.size = G := ⟨_, rfl⟩
  obtain ⟨T9, hT9⟩ : ∃ G, A8 + 1 + p2.os.size = G := ⟨_, rfl⟩
  have hGl : w.heap.size + 1 + 1 ≤ A8 ∧ A8 + 1 ≤ T9 := by omega
  rw [hA8, hT9]
  refine forgetW (fun wl => Up w wl ∧ wl.heap.size = T9 + 1 + 1 + 1 + 1 ∧ Box wl T9 #[.slice none 0 0] 108 ∧ Box wl (T9 + 1) #[.slice a n c, .int .i64 home] 24 ∧ Box wl (T9 + 1 + 1) #[.int .i64 t] 2 ∧ Box wl (T9 + 1 + 1 + 1) #[.int .i64 (px), .int .i64 (px), .int .i64 (py), .int .i64 (py)] 30)
    ⟨(by repeat (first | with_reducible exact Up.refl _ | with_reducible apply Up.plus | apply Up.ext | apply Up.alloc | apply Up.drew | (refine Up.setCell ?_ (by simp; try omega) _))), by rw [← hT9, ← hA8]; simp, by rw [← hT9, ← hA8]; exact (by repeat (first | exact Box.mk rfl | (refine Box.mk ?_; simp; done) | apply Box.ext | apply Box.drew | apply Box.alloc | apply Box.two1 | (refine Box.other ?_ (by omega) _ _))), by rw [← hT9, ← hA8]; exact (by repeat (first | exact Box.mk rfl | (refine Box.mk ?_; simp; done) | apply Box.ext | apply Box.drew | apply Box.alloc | apply Box.two1 | (refine Box.other ?_ (by omega) _ _))), by rw [← hT9, ← hA8]; exact (by repeat (first | exact Box.mk rfl | (refine Box.mk ?_; simp; done) | apply Box.ext | apply Box.drew | apply Box.alloc | apply Box.two1 | (refine Box.other ?_ (by omega) _ _))), by rw [← hT9, ← hA8]; exact (by repeat (first | exact Box.mk rfl | (refine Box.mk ?_; simp; done) | apply Box.ext | apply Box.drew | apply Box.alloc | apply Box.two1 | (refine Box.other ?_ (by omega) _ _)))⟩ ?_
  rintro wl ⟨hu, hsz, bs9, bw, bt, ba⟩
  clear hA8 hT9
  have hB := hu.below
  have HS := hide (And.intro hu (And.intro bs9 (And.intro bw (And.intro bt ba))))
  refine range_outer rfl (fun _ => trivial) rfl (gf := 80) (lb := #[.pointer (some ⟨T9 + 1, 0, none⟩), .pointer (some ⟨T9 + 1 + 1, 0, none⟩), .pointer (some ⟨T9 + 1 + 1 + 1, 0, none⟩)]) rfl (enters_of Tryz.func80 (by kernel_rfl) rfl)
    (pulls1_seq w.heap.size (T9 + 1) (T9 + 1 + 1) (T9 + 1 + 1 + 1) wl (px, px, py, py) bw bt ba (HL.out.1.keeps (hu.keeps _)) hh HL.out.2 t0 t1) (fun h k => h.trans k)
    (fun W L o o' hL _ _ => ⟨by simp, fun b hb hlt => World.putObj_heap_other (by rcases hb with hb | rfl | rfl | rfl <;> omega)⟩) (Below.refl _ _) (fun _ => rfl) (Nat.zero_le _)
    (fun pre W => Hid (RulI wl T9 pre W))
    (fun _ _ _ => False)
    ?hI ?hIx ?h0
    (fun y => [.cells #[.int .i64 y.2.1, .int .i64 y.2.2.1, .int .i64 y.2.2.2.1, .int .i64 y.2.2.2.2] 30])
    (fun y H => { tmps := #[.agg #[.slice a n c, .int .i64 home], .int .i64 t, .agg #[.int .i64 (px), .int .i64 (py)], .pointer (some ⟨w.heap.size, 0, none⟩), undef, .pointer (some ⟨w.heap.size + 1, 0, none⟩), .int .i64 0, .bool false, .pointer (some ⟨A8, 0, none⟩), .pointer (some ⟨T9, 0, none⟩), undef, .pointer (some ⟨H, 0, none⟩), undef, undef, undef, undef, undef, .agg #[.int .i64 (px), .int .i64 (py)], .agg #[.int .i64 (px), .int .i64 (px), .int .i64 (py), .int .i64 (py)], .agg #[.slice a n c, .int .i64 home], .agg #[.int .i64 (0), .int .i64 (0), .int .i64 (0), .int .i64 (0), .int .i64 (0)], .int .i64 t, .agg #[.int .i64 (px), .int .i64 (px), .int .i64 (py), .int .i64 (py)], .int .i64 0, .bool false, .agg #[.slice a n c, .int .i64 home], .int .i64 t, .agg #[.int .i64 (px), .int .i64 (px), .int .i64 (py), .int .i64 (py)], .func (.func 80) #[] #[.pointer (some ⟨T9 + 1, 0, none⟩), .pointer (some ⟨T9 + 1 + 1, 0, none⟩), .pointer (some ⟨T9 + 1 + 1 + 1, 0, none⟩)], .int .i64 y.1, .agg #[.int .i64 y.2.1, .int .i64 y.2.2.1, .int .i64 y.2.2.2.1, .int .i64 y.2.2.2.2], undef, undef, undef, undef, undef, undef, undef, undef, undef, undef, undef, undef, undef, undef, undef, undef, undef, undef, undef, undef, undef, undef, undef, undef, undef, undef, undef, undef, undef, undef, undef, undef, undef, undef, undef, undef, undef, undef, undef, undef, undef, undef], defers := [] }) ?assign ?body ?done ?stop
  case assign =>
    intro L x W K hK
    unfold encA
    gi_wp2
    exact hK
  case hI =>
    rintro pre W W' row hJ hg hr
    obtain ⟨h1, sv, xs, hb, ho, hx⟩ := hJ.out
    exact hide ⟨grown_turn h1 hg (fun r e => (hr r e).1), sv, xs, hb.grown hg (fun e => by have := (hr T9 e).1; omega), ownsRow_kept ho hg (fun r e => (hr r e).2), hx⟩
  case hIx =>
    rintro c' pre W W' row h hg hr
    exact h
  case h0 => exact hide ⟨grown_refl _ _, _, [], bs9, World.ownsRow_nil _ _ _ _, RowOf.nil _ _⟩
  case stop =>
    rintro D c' pre W hD hpre h hK
    exact h.elim
  case body =>
    rintro L pre y W hL _ hJ hnx
    obtain ⟨h2, sv, xs, b9, ho, hx⟩ := hJ.out
    have hlen := hnx.length_le
    rw [pullsL_len] at hlen
    simp only [List.length_append, List.length_cons, List.length_nil] at hlen
    have hbl : bs.length ≤ 8 := (worldE_zero HL.out.2).2.1
    have HLN := hide (And.intro hlen hbl)
    clear hlen hbl
    obtain ⟨yi, p⟩ := y
    dsimp only [news, List.foldl]
    have hw0 := h2.size
    have hT : T9 < W.heap.size := b9.lt
    obtain ⟨PW, hPW⟩ : ∃ q, W.heap.size = q := ⟨_, rfl⟩
    refine forgetW (fun V => Up W V ∧ Box V T9 #[sv] 108 ∧ Box V PW #[.int .i64 p.1, .int .i64 p.2.1, .int .i64 p.2.2.1, .int .i64 p.2.2.2] 30 ∧ V.ownsRow wl.heap.size 26 2 sv pre.length xs) ⟨(by repeat (first | with_reducible exact Up.refl _ | with_reducible apply Up.plus | apply Up.ext | apply Up.alloc | apply Up.drew | (refine Up.setCell ?_ (by simp; try omega) _))), b9.alloc _, Box.mk hPW, ho.alloc _⟩ ?_
    rintro V ⟨huV, b9V, bpV, hoV⟩
    rw [hPW]
    have HJ := hide (And.intro h2 (And.intro hx (And.intro huV hoV)))
    have HB9 := hide b9
    have HS0 := hide (And.intro b9V.drew bpV.drew)
    have HV0 := hide (And.intro b9V bpV)
    clear hJ h2 b9 ho hx huV b9V bpV hoV hnx
    apply wpIn_block
    refine wpIn_region_L (fun W' => Box W' T9 #[sv] 108 ∧ Box W' PW #[.int .i64 p.1, .int .i64 p.2.1, .int .i64 p.2.2.1, .int .i64 p.2.2.2] 30) 11 (by kernel_rfl) (by kernel_rfl) (by rintro ⟨_, _, h⟩; exact h) ?_
    refine anyL_take 0 (v := sv) rfl (by kernel_rfl) (fun _ _ _ h => h) (.inl ⟨rfl, fun W' hW' => by have e0 := Box.cell hW'.1 0 rfl; simp [go_sem, e0]⟩) HS0.out ?_
    simp only [Act.put, List.setIfInBounds_toArray, List.set_cons_zero, List.set_cons_succ]
    refine anyL_take 1 (v := (.pointer (some ⟨PW, 0, none⟩))) rfl (by kernel_rfl) (fun _ _ _ h => h) (.inl ⟨rfl, fun W' hW' => by simp [go_sem]⟩) HS0.out ?_
    simp only [Act.put, List.setIfInBounds_toArray, List.set_cons_zero, List.set_cons_succ]
    refine anyL_take 2 (v := (.agg #[.int .i64 p.1, .int .i64 p.2.1])) rfl (by kernel_rfl) (fun _ _ _ h => h) (.inl ⟨rfl, fun W' hW' => by have e0 := Box.cell hW'.2 0 rfl; have e1 := Box.cell hW'.2 1 rfl; simp [go_sem, e0, e1]⟩) HS0.out ?_
    simp only [Act.put, List.setIfInBounds_toArray, List.set_cons_zero, List.set_cons_succ]
    refine anyL_take 4 (v := (.pointer (some ⟨PW, 2, none⟩))) rfl (by kernel_rfl) (fun _ _ _ h => h) (.inl ⟨rfl, fun W' hW' => by simp [go_sem]⟩) HS0.out ?_
    simp only [Act.put, List.setIfInBounds_toArray, List.set_cons_zero, List.set_cons_succ]
    refine anyL_take 5 (v := (.agg #[.int .i64 p.2.2.1, .int .i64 p.2.2.2])) rfl (by kernel_rfl) (fun _ _ _ h => h) (.inl ⟨rfl, fun W' hW' => by have e0 := Box.cell hW'.2 2 rfl; have e1 := Box.cell hW'.2 3 rfl; simp [go_sem, e0, e1]⟩) HS0.out ?_
    simp only [Act.put, List.setIfInBounds_toArray, List.set_cons_zero, List.set_cons_succ]
    refine anyL_one (i := 3) (by kernel_rfl) rfl (fun K HK => ?_)
    go_wp2_with fail
    go_at_call 67
    refine (fsquare2 _ _ _).mono ?_
    intro p1
    go_wp2_with fail
    refine HK.out _ _ (fun _ => ⟨(by repeat (first | with_reducible exact HV0.out.1 | apply Box.ext | apply Box.drew | apply Box.alloc | (refine Box.other ?_ (by simp; try omega) _ _))), (by repeat (first | with_reducible exact HV0.out.2 | apply Box.ext | apply Box.drew | apply Box.alloc | (refine Box.other ?_ (by simp; try omega) _ _)))⟩) ?_
    clear HK
    refine anyL_one (i := 6) (by kernel_rfl) rfl (fun K HK => ?_)
    go_wp2_with fail
    go_at_call 67
    refine (fsquare2 _ _ _).mono ?_
    intro p2
    go_wp2_with fail
    refine HK.out _ _ (fun _ => ⟨(by repeat (first | with_reducible exact HV0.out.1 | apply Box.ext | apply Box.drew | apply Box.alloc | (refine Box.other ?_ (by simp; try omega) _ _))), (by repeat (first | with_reducible exact HV0.out.2 | apply Box.ext | apply Box.drew | apply Box.alloc | (refine Box.other ?_ (by simp; try omega) _ _)))⟩) ?_
    clear HK
    refine forgetW (fun U => Up V U ∧ Box U T9 #[sv] 108 ∧ Box U PW #[.int .i64 p.1, .int .i64 p.2.1, .int .i64 p.2.2.1, .int .i64 p.2.2.2] 30) ⟨(by repeat (first | with_reducible exact Up.refl _ | with_reducible apply Up.plus | apply Up.ext | apply Up.alloc | apply Up.drew | (refine Up.setCell ?_ (by simp; try omega) _))), (by repeat (first | with_reducible exact HV0.out.1 | apply Box.ext | apply Box.drew | apply Box.alloc | (refine Box.other ?_ (by simp; try omega) _ _))), (by repeat (first | with_reducible exact HV0.out.2 | apply Box.ext | apply Box.drew | apply Box.alloc | (refine Box.other ?_ (by simp; try omega) _ _)))⟩ ?_
    rintro U7 ⟨hu7, b9U, bpU⟩
    have HU7 := hide (And.intro hu7 (And.intro b9U bpU))
    clear hu7 b9U bpU
    refine anyL_one (i := 7) (by kernel_rfl) rfl (fun K HK => ?_)
    go_wp2_with fail
    refine HK.out _ _ (fun _ => ⟨HU7.out.2.1.alloc _, HU7.out.2.2.alloc _⟩) ?_
    clear HK
    refine anyL_one (i := 8) (by kernel_rfl) rfl (fun K HK => ?_)
    go_wp2_with fail
    go_at_call 61
    refine (fadd2 (squareP (p.1, p.2.1)) (squareP (p.2.2.1, p.2.2.2)) (squareP_check (p.1, p.2.1)) (Box.mk rfl)).mono ?_
    intro p3
    go_wp2_with fail
    refine HK.out _ _ (fun _ => ⟨(by repeat (first | with_reducible exact HU7.out.2.1 | apply Box.ext | apply Box.drew | apply Box.alloc | (refine Box.other ?_ (by simp; try omega) _ _))), (by repeat (first | with_reducible exact HU7.out.2.2 | apply Box.ext | apply Box.drew | apply Box.alloc | (refine Box.other ?_ (by simp; try omega) _ _)))⟩) ?_
    clear HK
    rw [show addP (squareP (p.1, p.2.1)) (squareP (p.2.2.1, p.2.2.2)) = strengthP p from rfl]
    refine forgetW (fun U => Up V U ∧ Box U T9 #[sv] 108 ∧ Box U PW #[.int .i64 p.1, .int .i64 p.2.1, .int .i64 p.2.2.1, .int .i64 p.2.2.2] 30) ⟨(by repeat (first | with_reducible exact HU7.out.1 | with_reducible exact Up.refl _ | apply Up.ext | apply Up.alloc | apply Up.drew | (refine Up.setCell ?_ (by simp [World.setCell]; try omega) _))), (by repeat (first | with_reducible exact HU7.out.2.1 | apply Box.ext | apply Box.drew | apply Box.alloc | (refine Box.other ?_ (by simp; try omega) _ _))), (by repeat (first | with_reducible exact HU7.out.2.2 | apply Box.ext | apply Box.drew | apply Box.alloc | (refine Box.other ?_ (by simp; try omega) _ _)))⟩ ?_
    rintro U9 ⟨hu9, b9U, bpU⟩
    have HU9 := hide (And.intro hu9 (And.intro b9U bpU))
    have hT9U := b9U.lt
    clear hu9 b9U bpU HU7
    refine anyL_one (i := 9) (by kernel_rfl) rfl (fun K HK => ?_)
    go_wp2_with fail
    refine HK.out _ _ (fun _ => ⟨HU9.out.2.1.alloc _, HU9.out.2.2.alloc _⟩) ?_
    clear HK
    refine anyL_one (i := 10) (by kernel_rfl) rfl (fun K HK => ?_)
    obtain ⟨isp, hsi, hsz0, hsz1, hsz2⟩ := info_parts Tryz.infospan
    have hpl : pre.length ≤ 8 := by have := HLN.out.1; have := HLN.out.2; omega
    have hho : (U9.alloc (.cells #[.int .i64 (strengthP p).1, .int .i64 (strengthP p).2] 26)).ownsRow wl.heap.size 26 2 sv pre.length xs :=
      (ownsRow_kept HJ.out.2.2.2 (grown_up (grown_refl _ none) HU9.out.1) (fun r e => by cases e)).alloc _
    have hwU : wl.heap.size ≤ U9.heap.size := by
      have k1 := HJ.out.1.size
      have k2 := HJ.out.2.2.1.below.size
      have k3 := HU9.out.1.below.size
      omega
    refine wpList_append_lies _ rfl (.tmp 31) (.tmp 40) 108 rfl wl.heap.size 26 isp _ 2 16 Tryz.underlying108 hsi hsz0 hsz1 hsz2 rfl (by decide) sv pre.length xs rfl hho ⟨U9.heap.size, 0, none⟩ 1 1 [.int .i64 (strengthP p).1, .int .i64 (strengthP p).2] rfl rfl
      (World.news_of_block (heap_new _ _)) (fun u hu => by rcases List.mem_cons.1 hu with rfl | hu <;> (try (obtain rfl := List.mem_singleton.1 hu)) <;> rfl) (by decide) (by unfold maxLen; omega) (by omega) (by simp; omega) _ rfl ?_
    intro g cap w1 hown1 hgrow1 hat1 hlt1
    have bb2 := (HU9.out.2.1.alloc (.cells #[.int .i64 (strengthP p).1, .int .i64 (strengthP p).2] 26)).grown hgrow1 (fun e => by have := hho.lt _ e; omega)
    have bbp : Box w1 PW #[.int .i64 p.1, .int .i64 p.2.1, .int .i64 p.2.2.1, .int .i64 p.2.2.2] 30 := (HU9.out.2.2.alloc (.cells #[.int .i64 (strengthP p).1, .int .i64 (strengthP p).2] 26)).grown hgrow1 (fun e => by
      rcases (ownsRow_kept HJ.out.2.2.2 (grown_up (grown_refl _ none) HU9.out.1) (fun r e => by cases e)).2 with ⟨rfl, _⟩ | ⟨g', cap', cur', rfl, _, hh, _⟩
      · cases e
      · have e' : g' = PW := by simpa [Value.ownBlock] using e
        rw [e'] at hh
        have := HU9.out.2.2
        rw [show U9.heap[PW]? = some (.cells #[.int .i64 p.1, .int .i64 p.2.1, .int .i64 p.2.2.1, .int .i64 p.2.2.2] 30 (0, 0)) from this] at hh
        simp at hh)
    have HE := hide (fun a' => rul_end (y := (yi, p)) (B0 := w.heap.size) (by omega) hsz HJ.out.1 HB9.out HJ.out.2.1 HJ.out.2.2.1 HU9.out.1 _ hho hgrow1 hown1 a')
    have c0 := bb2.cell 0 rfl
    have f0 := bb2.frozen 0
    have l0 := bb2.lt
    have HB2 := hide (And.intro bb2 bbp)
    clear hho hgrow1 hown1 hat1 bb2 bbp
    go_wp2_with fail
    refine HK.out _ _ (fun _ => HB2.out) ?_
    clear HK
    refine anyL_one (i := 11) (by kernel_rfl) rfl (fun K HK => ?_)
    go_wp2_with fail
    refine HK.out _ _ (fun h => (h rfl).elim) ?_
    clear HK
    refine anyL_done (by kernel_rfl) ?_
    clear c0 f0
    gi_wp2
    exact HE.out _
  case done =>
    rintro D W hD hJ hK
    obtain ⟨h2, sv, xs, b9, ho, hx⟩ := hJ.out
    have hw0 := h2.size
    obtain ⟨q1, q2, _⟩ := worldE_zero HL.out.2
    have hpos : 0 < bs.length := List.length_pos_iff.2 q1
    obtain ⟨g, cap, rfl, hgb, hgl⟩ := ho.form (by rw [pullsL_len]; exact hpos)
    have hcells := fun (k : Nat) (hk : k < bs.length) => ruler_cells ho hx hk
    have hgW := (ho.lt g rfl).2
    rw [pullsL_len] at b9
    have HFIND := hide (fun (k : Nat) => @rulerP_find (bs.map fun b => strengthP (pullB t (px, px, py, py) b)) k)
    have HNONE := hide (@rulerP_none (bs.map fun b => strengthP (pullB t (px, px, py, py) b)))
    rw [List.length_map] at HFIND HNONE
    obtain ⟨RR, hRR⟩ : ∃ r, rulerP (bs.map fun b => strengthP (pullB t (px, px, py, py) b)) = r := ⟨_, rfl⟩
    rw [hRR] at HFIND HNONE
    obtain ⟨f, hf⟩ : ∃ f : Nat → Sp, (fun k => (bs.map fun b => strengthP (pullB t (px, px, py, py) b)).getD k (0, 0)) = f := ⟨_, rfl⟩
    have hcells' : ∀ (k : Nat), k < bs.length → W.cell? ⟨g, k * 2, none⟩ = some (.int .i64 (f k).1) ∧ W.cell? ⟨g, k * 2 + 1, none⟩ = some (.int .i64 (f k).2) := fun k hk => by rw [← hf]; exact hcells k hk
    rw [hf] at HFIND HNONE
    obtain ⟨m, hm⟩ : ∃ m, bs.length = m := ⟨_, rfl⟩
    rw [hm] at hcells' HFIND HNONE b9 q2 hpos
    have c0 := b9.cell 0 rfl
    have f0 := b9.frozen 0
    have l0 := b9.lt
    have hB3 := below_of_grown hB h2 (by omega)
    have HJ := hide (And.intro h2 (And.intro b9 hcells'))
    have HB3 := hide hB3
    have HRR := hide hRR
    have HK := hide hK
    clear hJ h2 b9 ho hx hK hcells hcells' hB3 hRR hf hm q1 bs9 bw bt ba hu hB HL HA HP
    have HGM := hide (show ∀ wr, Up W wr → ∀ k, k < m → wr.cell? ⟨g, k * 2, none⟩ = some (.int .i64 (f k).1) ∧ wr.cell? ⟨g, k * 2 + 1, none⟩ = some (.int .i64 (f k).2) from fun wr hu k hk =>
      ⟨(World.cell?_of_block (a := ⟨g, k * 2, none⟩) (hu.below.block g hgW)).trans (HJ.out.2.2 k hk).1, (World.cell?_of_block (a := ⟨g, k * 2 + 1, none⟩) (hu.below.block g hgW)).trans (HJ.out.2.2 k hk).2⟩)
    have HEND := hide (show ∀ (wr : World) (x : Int) (b : Bool) (P : Prop), Up W wr → P → (KeepsOthers W wr ∧ Below w.heap.size w wr) ∧ P from fun wr _ _ P hu hp => ⟨⟨keepsOthers_up hu, HB3.out.trans (hu.trans_below (by omega))⟩, hp⟩)
    gi_wp2_with fail
    gi_loopw [44] (fun s44 wr => ∃ k : Nat, s44 = .int .i64 k ∧ k ≤ m ∧ Hid (Up W wr ∧ ∀ j, j < k → rulesF f m j = false)) (fun s _ => m - (intOf s).toNat)
    case atStart => exact ⟨0, by go_num, by omega, hide ⟨Up.refl _, fun j hj => by omega⟩⟩
    case round =>
      obtain ⟨k, rfl, hk, hr⟩ := hrel
      by_cases hlt : k < m
      · have hkb : decide ((k : Int) < m) = true := by simp; omega
        obtain ⟨g0, g1⟩ := HGM.out _ hr.out.1 k hlt
        have lg : g < wr.heap.size := Nat.lt_of_lt_of_le hgW hr.out.1.below.size
        have cc0 : wr.cell? ⟨T9, 0, none⟩ = some (.slice (some ⟨g, 0, none⟩) m cap) := (HJ.out.2.1.up hr.out.1).cell 0 rfl
        have lt9 : T9 < wr.heap.size := (HJ.out.2.1.up hr.out.1).lt
        gi_wp2_with fail
        refine forgetW (fun V => Up W V ∧ Box V wr.heap.size #[.int .i64 (f k).1, .int .i64 (f k).2] 26) ⟨(by repeat (first | with_reducible exact hr.out.1 | with_reducible exact Up.refl _ | apply Up.ext | apply Up.alloc | apply Up.drew | (refine Up.setCell ?_ (by simp [World.setCell]; try omega) _))), Box.mk rfl⟩ ?_
        rintro V ⟨hV, bV⟩
        obtain ⟨Z, hZ⟩ : ∃ Z, wr.heap.size = Z := ⟨_, rfl⟩
        rw [hZ] at bV ⊢
        have hrj := hide hr.out.2
        have hWZ : W.heap.size ≤ Z := by have := hr.out.1.below.size; omega
        clear hr g0 g1 lg cc0 lt9 hZ
        gi_loopw [14, 51] (fun s14 s51 w2 => ∃ q : Nat, s51 = .int .i64 q ∧ q ≤ m ∧ s14 = .bool ((List.range q).all fun x => x == k || decide ((f x).2 < (f k).1)) ∧ Hid (Up W w2 ∧ Box w2 Z #[.int .i64 (f k).1, .int .i64 (f k).2] 26)) (fun _ s _ => m - (intOf s).toNat)
        case atStart => exact ⟨0, by go_num, by omega, rfl, hide ⟨hV, bV⟩⟩
        case round =>
          obtain ⟨q, rfl, hq, rfl, hr⟩ := hrel
          clear hV bV
          by_cases hlq : q < m
          · have hqb : decide ((q : Int) < m) = true := by simp; omega
            obtain ⟨g0, g1⟩ := HGM.out _ hr.out.1 q hlq
            have lg : g < wr.heap.size := Nat.lt_of_lt_of_le hgW hr.out.1.below.size
            have z0 := hr.out.2.cell 0 rfl
            have z1 := hr.out.2.cell 1 rfl
            have lz := hr.out.2.lt
            have HQ := hide (show ((List.range (q + 1)).all fun x => x == k || decide ((f x).2 < (f k).1)) = (((List.range q).all fun x => x == k || decide ((f x).2 < (f k).1)) && (q == k || decide ((f q).2 < (f k).1))) by rw [List.range_succ, List.all_append]; simp)
            generalize ((List.range q).all fun x => x == k || decide ((f x).2 < (f k).1)) = rb at HQ ⊢
            cases rb
            · gi_wp2
              go_roundw
              case rel => exact ⟨q + 1, by go_num, by omega, by rw [HQ.out]; rfl, hide ⟨(by repeat (first | with_reducible exact hr.out.1 | with_reducible exact Up.refl _ | apply Up.ext | apply Up.alloc | apply Up.drew | (refine Up.setCell ?_ (by simp [World.setCell]; try omega) _))), (by repeat (first | with_reducible exact hr.out.2 | apply Box.ext | apply Box.drew | apply Box.alloc | (refine Box.other ?_ (by simp; try omega) _ _)))⟩⟩
              case measure => simp [intOf]; omega
            · by_cases hqk : q = k
              · have e1 : ((k : Int) == (q : Int)) = true := by simp; omega
                replace hqk := hide hqk
                gi_wp2
                go_roundw
                case rel => exact ⟨q + 1, by go_num, by omega, by rw [HQ.out]; simp [hqk.out], hide ⟨(by repeat (first | with_reducible exact hr.out.1 | with_reducible exact Up.refl _ | apply Up.ext | apply Up.alloc | apply Up.drew | (refine Up.setCell ?_ (by simp [World.setCell]; try omega) _))), (by repeat (first | with_reducible exact hr.out.2 | apply Box.ext | apply Box.drew | apply Box.alloc | (refine Box.other ?_ (by simp; try omega) _ _)))⟩⟩
                case measure => simp [intOf]; omega
              · have e1 : ((k : Int) == (q : Int)) = false := by simp; omega
                replace hqk := hide hqk
                gi_wp2
                go_roundw
                case rel => exact ⟨q + 1, by go_num, by omega, by rw [HQ.out]; simp [hqk.out], hide ⟨(by repeat (first | with_reducible exact hr.out.1 | with_reducible exact Up.refl _ | apply Up.ext | apply Up.alloc | apply Up.drew | (refine Up.setCell ?_ (by simp [World.setCell]; try omega) _))), (by repeat (first | with_reducible exact hr.out.2 | apply Box.ext | apply Box.drew | apply Box.alloc | (refine Box.other ?_ (by simp; try omega) _ _)))⟩⟩
                case measure => simp [intOf]; omega
          · have hqb : decide ((q : Int) < m) = false := by simp; omega
            have hqm : q = m := by omega
            have HRL := hide (show ((List.range q).all fun x => x == k || decide ((f x).2 < (f k).1)) = rulesF f m k by rw [hqm]; rfl)
            generalize ((List.range q).all fun x => x == k || decide ((f x).2 < (f k).1)) = rb at HRL ⊢
            cases rb
            · gi_wp2
              go_roundw
              case rel => exact ⟨k + 1, by go_num, by omega, hide ⟨hr.out.1, fun j hj => by
                rcases Nat.lt_or_ge j k with h | h
                · exact hrj.out j h
                · obtain rfl : j = k := by omega
                  exact HRL.out.symm⟩⟩
              case measure => simp [intOf]; omega
            · have hres := HFIND.out k hlt hrj.out HRL.out.symm
              subst hres
              gi_wp2
              have hK4 := (keepsOthers_up hr.out.1).same D _ HK.out rfl
              refine ⟨by simp, .inl ⟨_, _, rfl, run_takeDeferred hK4, ?_⟩⟩
              have hBF := below_put (HB3.out.trans (hr.out.1.trans_below (by omega))) (D := D) (by omega) (.deferred none)
              refine ⟨.tuple #[.int .i64 k, .bool true], ?_, by rw [HRR.out], hBF⟩
              simp [results, Tryz.results32, go_sem]
      · have hkb : decide ((k : Int) < m) = false := by simp; omega
        have hkm : k = m := by omega
        have hres := HNONE.out fun j hj => hr.out.2 j (by omega)
        subst hres
        gi_wp2
        have hK4 := (keepsOthers_up hr.out.1).same D _ HK.out rfl
        refine ⟨by simp, .inl ⟨_, _, rfl, run_takeDeferred hK4, ?_⟩⟩
        have hBF := below_put (HB3.out.trans (hr.out.1.trans_below (by omega))) (D := D) (by omega) (.deferred none)
        refine ⟨.tuple #[.int .i64 0, .bool false], ?_, by rw [HRR.out], hBF⟩
        simp [results, Tryz.results32, go_sem]

theorem fRuler_any {K : Nat → Prop} {w : World} {a : Option Addr} {n c : Nat} {bs : List Bod} {home : Int} (hl : Bods K w (.slice a n c) bs) (hh : I64 home) (t px py : Int) :
    Gives Tryz.prog 32 #[.agg #[.slice a n c, .int .i64 home], .int .i64 t, .agg #[.int .i64 (px), .int .i64 (py)]] w (.tuple #[.int .i64 (rulerV bs home t px py).1, .bool (rulerV bs home t px py).2]) := by
  unfold rulerV
  by_cases he : askedE bs home (0, 0) (0, 0) 0 t (px, px, py, py) = 0
  · rw [if_pos he]
    exact Calls.mono (callsIn_wide.1 (fRuler_in hl hh t px py he)) fun _ _ ⟨he, hb⟩ => ⟨he, Up.of_below hb⟩
  · rw [if_neg he]
    have heb : (askedE bs home (0, 0) (0, 0) 0 t (px, px, py, py) != 0) = true := by simp [he]
    have HA := hide (fun W (hu : Up w W) => fasked_any (hl.keeps (hu.keeps K)) hh (0, 0) (0, 0) 0 t px px py py)
    generalize askedE bs home (0, 0) (0, 0) 0 t (px, px, py, py) = e at *
    clear hl he
    refine Calls.mono (callsIn_wide.1 (?_ : CallsIn Fence.wide 0 Tryz.prog 32 _ w fun e' w' => e' = .returned (.tuple #[.int .i64 0, .bool false]) ∧ Below w.heap.size w w')) fun _ _ ⟨he, hb⟩ => ⟨he, Up.of_below hb⟩
    (refine callsIn_of_wp_marks Tryz.func32 rfl trivial ?_ rfl; simp only [Tryz.ntmps32, List.size_toArray, List.length_cons, List.length_nil, Nat.reduceAdd, Nat.reduceSub, Array.replicate_succ, Array.replicate_zero, List.push_toArray, List.append_toArray, List.nil_append, List.cons_append])
    gi_wp2_with (first | (refine ⟨trivial, rfl, ?_⟩; gi_at_call 53; refine (callsIn_wide.2 (falone_any _ _ _)).mono ?_; rintro _ _ ⟨rfl, p1, rfl⟩) | (refine ⟨trivial, rfl, ?_⟩; gi_at_call 39; refine (callsIn_wide.2 (HA.out _ (by repeat (first | with_reducible exact Up.refl _ | with_reducible apply Up.plus | apply Up.ext | apply Up.alloc | apply Up.drew | (refine Up.setCell ?_ (by simp; try omega) _))))).mono ?_; rintro _ _ ⟨rfl, px, rfl⟩))
    refine ⟨.tuple #[.int .i64 0, .bool false], ?_, rfl, Up.below (by repeat (first | with_reducible exact Up.refl _ | with_reducible apply Up.plus | apply Up.ext | apply Up.alloc | apply Up.drew | (refine Up.setCell ?_ (by simp; try omega) _)))⟩
    simp [results, Tryz.results32, go_sem]
end Go.Proofs.YtbcgdhldkanecaaGreat
