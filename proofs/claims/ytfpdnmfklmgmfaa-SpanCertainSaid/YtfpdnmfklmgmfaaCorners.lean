/- The corners of areas: an iterator that ranges over pairs in a loop. No conditions. -/
import Derived.Test.YtfpdnmfklmgmfaaSearch
namespace Go.Proofs.Ytfpdnmfklmgmfaa
open Go.RowKit Go.Shelf

attribute [local go_sem] Oper.semAt_some

theorem corners_any (s n : Nat) (w : World) : Calls Try.prog 111 #[.slice (some ⟨s, 0, none⟩) n n] w
    fun e w' => e = .returned (.func (.func 124) #[] #[.pointer (some ⟨w.heap.size, 0, none⟩)]) ∧
      w' = w.alloc (.cells #[.slice (some ⟨s, 0, none⟩) n n] 128) := by
  go_enter Try.func111, Try.ntmps111
  go_wp2
  go_ret
  exact ⟨rfl, rfl⟩

/-- the blocks of cells from B on are left as they lie -/
def KeepsFrom (B : Nat) (W W' : World) : Prop := ∀ (k : Nat) (o : Obj), B ≤ k → W.heap[k]? = some o → o.isCells = true → W'.heap[k]? = some o
theorem KeepsFrom.trans {B : Nat} {X Y Z : World} (h : KeepsFrom B X Y) (k : KeepsFrom B Y Z) : KeepsFrom B X Z := fun i o hi ho hc => k i o hi (h i o hi ho hc) hc
theorem KeepsFrom.box {B b : Nat} {W W' : World} {c : Array Value} {t : TypeId} (h : KeepsFrom B W W') (hb : B ≤ b) (x : Box W b c t) : Box W' b c t := h b _ hb x rfl
theorem KeepsFrom.put {B L : Nat} (W : World) {o : Obj} (ho : W.heap[L]? = some o) (hc : o.isCells = false) (o' : Obj) : KeepsFrom B W (W.putObj L o') := fun k p _ hk hp => by
  refine (World.putObj_heap_other ?_).trans hk
  intro e; subst e
  rw [ho] at hk; cases hk; rw [hc] at hp; cases hp

theorem ownFrom_mono {β : Type} {B C : Nat} {I : β → World → Prop} (h : OwnFrom B I) (hBC : B ≤ C) : OwnFrom C I := fun s W W' row hs hg hr => h s W W' row hs hg (fun r e => ⟨Nat.le_trans hBC (hr r e).1, (hr r e).2⟩)

/-- the mark of a range's deferred calls -/
def mark (D : Nat) : Deferred := { target := .collected D, args := #[] }
def Marks (Ds : List Nat) (w : World) : Prop := Ds.Nodup ∧ ∀ D ∈ Ds, w.heap[D]? = some (.deferred (some []))
theorem Marks.nil (w : World) : Marks [] w := ⟨List.nodup_nil, by simp⟩
theorem Marks.cons {D : Nat} {Ds : List Nat} {w : World} (h : Marks Ds w) (hD : w.heap[D]? = some (.deferred (some []))) (hn : D ∉ Ds) : Marks (D :: Ds) w :=
  ⟨List.nodup_cons.2 ⟨hn, h.1⟩, fun d hd => by rcases List.mem_cons.1 hd with rfl | hd; exact hD; exact h.2 d hd⟩
theorem Marks.of {Ds : List Nat} {w w' : World} (h : Marks Ds w) (hk : ∀ D ∈ Ds, w.heap[D]? = some (.deferred (some [])) → w'.heap[D]? = some (.deferred (some []))) : Marks Ds w' := ⟨h.1, fun D hD => hk D hD (h.2 D hD)⟩
theorem Marks.lt {Ds : List Nat} {w : World} (h : Marks Ds w) {D : Nat} (hD : D ∈ Ds) : D < w.heap.size := (Array.getElem?_eq_some_iff.1 (h.2 D hD)).1

/-- A function leaves with some marks. -/
theorem leaves_marks {F : Fence} {n : Nat} {P : Program} {fn : Func} {tmps : Array Value} {R : Ending → World → Prop} (Φ : World → Prop) (hR : ∀ w, Φ w → LeavesIn F n P fn tmps R [] .returning w) :
    ∀ (Ds : List Nat) (w : World), Marks Ds w → (∀ D ∈ Ds, ∀ w o, w.heap[D]? = some o → o.isCells = false → Φ w → Φ (w.putObj D (.deferred none))) → Φ w → LeavesInM F n P fn tmps R (Ds.map mark) .returning w := by
  intro Ds
  induction Ds with
  | nil => intro w _ _ h; exact hR w h
  | cons D Ds ih =>
    intro w hM hΦ h
    have hD := hM.2 D (by simp)
    have hnd := List.nodup_cons.1 hM.1
    exact ⟨by simp, .inl ⟨D, _, rfl, run_takeDeferred hD, ih _ ⟨hnd.2, fun d hd => (World.putObj_heap_other (by rintro rfl; exact hnd.1 hd)).trans (hM.2 d (by simp [hd]))⟩ (fun d hd => hΦ d (by simp [hd])) (hΦ D (by simp) w _ hD rfl h)⟩⟩

abbrev Ar := Int × Int × Int × Int
def fourA (a : Ar) : List (Int × Int) := four a.1 a.2.1 a.2.2.1 a.2.2.2
def ofA (a : Ar) : List Value := [.int .i64 a.1, .int .i64 a.2.1, .int .i64 a.2.2.1, .int .i64 a.2.2.2]
def cornersL (l : List Ar) : List (Int × Int) := l.flatMap fourA

theorem corners_take (l : List Ar) (k : Nat) (hk : k < l.length) : cornersL (l.take k) ++ fourA l[k] = cornersL (l.take (k + 1)) := by
  unfold cornersL
  rw [← List.take_append_getElem hk, List.flatMap_append]
  simp
theorem corners_pre (l : List Ar) (k : Nat) : cornersL (l.take k) <+: cornersL l := by
  unfold cornersL
  have : l = l.take k ++ l.drop k := (List.take_append_drop k l).symm
  conv => rhs; rw [this, List.flatMap_append]
  exact List.prefix_append _ _

set_option maxRecDepth 100000 in
set_option maxHeartbeats 2000000 in
theorem corners1_seq (B Bs s : Nat) (l : List Ar) (C : Array Value) (t : TypeId) (w : World) (hBs : B ≤ Bs) (hs : B ≤ s) (x1 : Box w Bs #[.slice (some ⟨s, 0, none⟩) l.length l.length] 128) (x2 : Box w s C t) (hn : l.length ≤ 16)
    (hc : ∀ k, (h : k < l.length) → C[k * 4]? = some (.int .i64 l[k].1) ∧ C[k * 4 + 1]? = some (.int .i64 l[k].2.1) ∧ C[k * 4 + 2]? = some (.int .i64 l[k].2.2.1) ∧ C[k * 4 + 3]? = some (.int .i64 l[k].2.2.2)) :
    SeqN Fence.wide Try.prog 124 #[.pointer (some ⟨Bs, 0, none⟩)] (fun x : Int × Int => #[.agg #[.int .i64 x.1, .int .i64 x.2]]) (KeepsFrom B) (cornersL l) w := by
  intro m lp J Jx W hl hW hJ hJx hY hJ0
  have y1 : Box W Bs #[.slice (some ⟨s, 0, none⟩) l.length l.length] 128 := (hW.block Bs x1.lt).trans x1
  have y2 : Box W s C t := (hW.block s x2.lt).trans x2
  have c1 := y1.cell 0 rfl
  have l1 := y1.lt
  (refine callsIn_of_wp_marks Try.func124 rfl trivial ?_ rfl; simp only [Try.ntmps124, List.size_toArray, List.length_cons, List.length_nil, Nat.reduceAdd, Nat.reduceSub, Array.replicate_succ, Array.replicate_zero, List.push_toArray, List.append_toArray, List.nil_append, List.cons_append])
  gi_wp2
  refine wpIn_loop (fun a w' => ∃ (k : Nat) (Ds : List Nat) (u4 u5 u6 u10 u11 u12 u13 u14 u15 u16 u17 u18 u19 u20 u21 u22 u23 u24 u25 u26 : Value), k ≤ l.length ∧ a = { tmps := #[.func (.yield lp) #[] #[], .pointer (some ⟨Bs, 0, none⟩), .pointer (some ⟨W.heap.size, 0, none⟩), undef, u4, u5, u6, .slice (some ⟨s, 0, none⟩) l.length l.length, .int .i64 l.length, .int .i64 k, u10, u11, u12, u13, u14, u15, u16, u17, u18, u19, u20, u21, u22, u23, u24, u25, u26], defers := Ds.map mark } ∧
    J (cornersL (l.take k)) w' ∧ Box w' W.heap.size #[.func (.yield lp) #[] #[]] 73 ∧ Box w' s C t ∧ Marks Ds w' ∧ (∀ D ∈ Ds, W.heap.size ≤ D)) (fun a _ => l.length - (intOf (a.tmps.getD 9 undef)).toNat) ?start ?round
  case start =>
    exact ⟨0, [], undef, undef, undef, undef, undef, undef, undef, undef, undef, undef, undef, undef, undef, undef, undef, undef, undef, undef, undef, undef, by omega, rfl, hJ.alloc _ hJ0, Box.new _ _ _, y2.alloc _, Marks.nil _, by simp⟩
  case round =>
    rintro a wr ⟨k, Ds, u4, u5, u6, u10, u11, u12, u13, u14, u15, u16, u17, u18, u19, u20, u21, u22, u23, u24, u25, u26, hk, rfl, hJk, bY, b2, hM, hD⟩
    by_cases hlt : k < l.length
    · have hkb : decide ((k : Int) < l.length) = true := by simp; omega
      obtain ⟨e0, e1, e2, e3⟩ := hc k hlt
      have d0 := b2.cell (k * 4) e0
      have d1 := b2.cell (k * 4 + 1) e1
      have d2 := b2.cell (k * 4 + 2) e2
      have d3 := b2.cell (k * 4 + 3) e3
      have l2 := b2.lt
      have lY := bY.lt
      have HM := hide (And.intro hM hD)
      have HC := hide hc
      have HB := hide (And.intro bY b2)
      clear hM hD hc bY b2 e0 e1 e2 e3 x1 x2 y1 y2 c1
      gi_wp2_with (refine ⟨trivial, fun h => (by cases h), ?_⟩; gi_at_call 121; refine (callsIn_wide.2 (pairs_any _ _ _ _ _)).mono ?_; rintro _ _ ⟨rfl, rfl⟩)
      obtain ⟨wk, hwk⟩ : ∃ wk, ((((wr.alloc (.cells #[.int .i64 l[k].1, .int .i64 l[k].2.1, .int .i64 l[k].2.2.1, .int .i64 l[k].2.2.2] 44)).alloc (.cells #[.int .i64 l[k].1, .int .i64 l[k].2.1] 34)).alloc (.cells #[.int .i64 l[k].2.2.1, .int .i64 l[k].2.2.2] 34)).alloc (.cells #[.int .i64 l[k].1, .int .i64 l[k].2.1, .int .i64 l[k].2.2.1, .int .i64 l[k].2.2.2] 130)) = wk := ⟨_, rfl⟩
      have xE : Box wk (wr.heap.size + 1 + 1 + 1) #[.int .i64 l[k].1, .int .i64 l[k].2.1, .int .i64 l[k].2.2.1, .int .i64 l[k].2.2.2] 130 := by rw [← hwk]; exact Box.mk (by simp)
      have hsz : wk.heap.size = wr.heap.size + 1 + 1 + 1 + 1 := by rw [← hwk]; simp
      have hup : Up wr wk := by rw [← hwk]; exact ((((Up.refl _).alloc _).alloc _).alloc _).alloc _
      have hJw : J (cornersL (l.take k)) wk := by rw [← hwk]; exact hJ.alloc _ (hJ.alloc _ (hJ.alloc _ (hJ.alloc _ hJk)))
      have bYk := HB.out.1.up hup
      have b2k := HB.out.2.up hup
      have hMk : Marks Ds wk := HM.out.1.of (fun D hD h => (hup.below.block D (HM.out.1.lt hD)).trans h)
      have hDs : ∀ D ∈ Ds, W.heap.size ≤ D ∧ D < wr.heap.size := fun D hD => ⟨HM.out.2 D hD, HM.out.1.lt hD⟩
      have hsub : fourA l[k] = four l[k].1 l[k].2.1 l[k].2.2.1 l[k].2.2.2 := rfl
      rw [hwk]
      clear hwk
      refine range_outer rfl (fun _ => trivial) rfl (gf := 125) (lb := #[.pointer (some ⟨wr.heap.size + 1 + 1 + 1, 0, none⟩)]) rfl (enters_of Try.func125 (by kernel_rfl) rfl)
        (pairs1_seq (wr.heap.size + 1 + 1 + 1) l[k].1 l[k].2.1 l[k].2.2.1 l[k].2.2.2 wk (by omega) (xE.cell 0 rfl) (xE.cell 1 rfl) (xE.cell 2 rfl) (xE.cell 3 rfl)) (fun h k => h.trans k)
        (fun W L o o' hL _ _ => World.putObj_heap_other (by omega)) (Below.refl _ _) (fun _ => rfl) (b := W.heap.size) (by omega)
        (fun pre W4 => J (cornersL (l.take k) ++ pre) W4 ∧ Box W4 W.heap.size #[.func (.yield lp) #[] #[]] 73 ∧ Box W4 s C t ∧ Marks Ds W4 ∧ Box W4 (wr.heap.size + 1 + 1 + 1) #[.int .i64 l[k].1, .int .i64 l[k].2.1, .int .i64 l[k].2.2.1, .int .i64 l[k].2.2.2] 130)
        (fun c' pre W4 => c' = .ret ∧ Jx (cornersL (l.take k) ++ pre) W4 ∧ Marks Ds W4)
        ?hI ?hIx ⟨by rw [List.append_nil]; exact hJw, bYk, b2k, hMk, xE⟩
        (fun _ => [])
        (fun x _ => { tmps := #[.func (.yield lp) #[] #[], .pointer (some ⟨Bs, 0, none⟩), .pointer (some ⟨W.heap.size, 0, none⟩), undef, .pointer (some ⟨wr.heap.size, 0, none⟩), .int .i64 x.1, .int .i64 x.2, .slice (some ⟨s, 0, none⟩) l.length l.length, .int .i64 l.length, .int .i64 k, .bool true, .pointer (some ⟨s, k * 4, none⟩), .agg #[.int .i64 l[k].1, .int .i64 l[k].2.1, .int .i64 l[k].2.2.1, .int .i64 l[k].2.2.2], .pointer (some ⟨wr.heap.size, 0, none⟩), .agg #[.int .i64 l[k].1, .int .i64 l[k].2.1], .pointer (some ⟨wr.heap.size, 2, none⟩), .agg #[.int .i64 l[k].2.2.1, .int .i64 l[k].2.2.2], .func (.func 125) #[] #[.pointer (some ⟨wr.heap.size + 1 + 1 + 1, 0, none⟩)], .int .i64 x.1, .int .i64 x.2, u20, u21, u22, u23, u24, u25, u26], defers := [] }) ?assign ?body ?done ?stop
      case assign =>
        intro L x W4 K hK
        gi_wp2
        exact hK
      case hI =>
        rintro pre W4 W5 row ⟨h1, h2, h3, h4, h5⟩ hg hr
        have hne : ∀ b, b < wk.heap.size → row ≠ some b := fun b hb e => by have := (hr b e).1; omega
        exact ⟨hJ _ _ _ _ h1 hg (fun r e => ⟨by have := (hr r e).1; omega, (hr r e).2⟩), h2.grown hg (hne _ (by omega)), h3.grown hg (hne _ (by omega)),
          h4.of (fun D hD h => (hg.block D (h4.lt hD) (Ne.symm (hne D (by have := hDs D hD; omega)))).trans h), h5.grown hg (hne _ (by omega))⟩
      case hIx =>
        rintro c' pre W4 W5 row ⟨h1, h2, h3⟩ hg hr
        have hne : ∀ b, b < wk.heap.size → row ≠ some b := fun b hb e => by have := (hr b e).1; omega
        exact ⟨h1, hJx _ _ _ _ h2 hg (fun r e => ⟨by have := (hr r e).1; omega, (hr r e).2⟩), h3.of (fun D hD h => (hg.block D (h3.lt hD) (Ne.symm (hne D (by have := hDs D hD; omega)))).trans h)⟩
      case body =>
        rintro L pre x W4 hL _ ⟨h1, h2, h3, h4, h5⟩ hnx
        have cY := h2.cell 0 rfl
        have hYW := h2.lt
        have hpre : (cornersL (l.take k) ++ pre) ++ [x] <+: cornersL l := by
          refine List.IsPrefix.trans ?_ (corners_pre l (k + 1))
          rw [← corners_take l k hlt, List.append_assoc]
          exact (List.prefix_append_right_inj _).2 hnx
        obtain ⟨fn, tmps, assign, body, hy, hR⟩ := hY 0 _ x W4 h1 hpre
        try dsimp only at hy
        have HX := hide (And.intro h2 (And.intro h3 (And.intro h4 h5)))
        clear h1 h2 h3 h4 h5 hnx hpre
        dsimp only [news, List.foldl]
        gi_wp2
        refine ⟨rfl, RoundIn.mono (F := Fence.wide.inRound L) hR ?_⟩
        rintro e W5 (⟨rfl, hJ5, hk5, hf5⟩ | ⟨rfl, hJx5, hk5⟩)
        · gi_wp2
          obtain ⟨h2, h3, h4, h5⟩ := HX.out
          refine ⟨hk5, (hf5.box (by omega) h5).trans h5.symm, by rw [← List.append_assoc]; exact hJ5, hf5.box (by omega) h2, hf5.box (by omega) h3, h4.of (fun D hD h => hk5.same D _ h rfl), hf5.box (by omega) h5⟩
        · gi_wp2
          obtain ⟨h2, h3, h4, h5⟩ := HX.out
          exact ⟨⟨hk5.size, fun q o hq ho hc => hk5.same q o (by omega) ho hc⟩, rfl, by rw [← List.append_assoc]; exact hJx5, h4.of (fun D hD h => hk5.same D _ (by have := hDs D hD; omega) h rfl)⟩
      case done =>
        rintro D W5 hD5 ⟨h1, h2, h3, h4, h5⟩ hK
        rw [← hsub, corners_take l k hlt] at h1
        have hnD : D ∉ Ds := fun h => by have := hDs D h; omega
        have HX := hide (And.intro h2 (And.intro h3 (And.intro h4 (And.intro hK hnD))))
        have HJ := hide h1
        have HDs := hide hDs
        clear h1 h2 h3 h4 h5 hK hnD hDs
        gi_wp2
        obtain ⟨h2, h3, h4, hK, hnD⟩ := HX.out
        refine ⟨⟨k + 1, D :: Ds, _, _, _, _, _, _, _, _, _, _, _, _, _, _, _, _, _, _, _, _, by omega, rfl, HJ.out, h2, h3, h4.cons hK hnD, ?_⟩, ?_⟩
        · intro D' hD'
          rcases List.mem_cons.1 hD' with rfl | h
          · omega
          · exact (HDs.out D' h).1
        · simp [intOf]; omega
      case stop =>
        rintro D c' pre W5 hD5 hpre ⟨rfl, h1, h2⟩ hK
        have hnD : D ∉ Ds := fun h => by have := hDs D h; omega
        have hp : cornersL (l.take k) ++ pre <+: cornersL l := by
          refine List.IsPrefix.trans ?_ (corners_pre l (k + 1))
          rw [← corners_take l k hlt]
          exact (List.prefix_append_right_inj _).2 hpre
        have HX := hide (And.intro h1 (And.intro h2 (And.intro hK (And.intro hnD (And.intro hp hDs)))))
        clear h1 h2 hK hnD hDs hp hpre
        gi_wp2
        obtain ⟨h1, h2, hK, hnD, hp, hDs⟩ := HX.out
        refine leaves_marks (Ds := D :: Ds) (fun w => Jx (cornersL (l.take k) ++ pre) w) ?_ W5 (h2.cons hK hnD) ?_ h1
        · intro w hw
          exact ⟨_, results_none rfl _ _ _, ⟨_, rfl⟩, .inr ⟨_, hp, hw⟩⟩
        · intro D' hD' w o ho hc h
          refine hJx.putObj _ h ?_ ho hc
          rcases List.mem_cons.1 hD' with rfl | h
          · omega
          · exact (hDs D' h).1
    · have hkb : decide ((k : Int) < l.length) = false := by simp; omega
      obtain rfl : k = l.length := by omega
      gi_wp2
      rw [List.take_length] at hJk
      refine leaves_marks (fun w => J (cornersL l) w) ?_ Ds _ hM (fun D hd w o ho hc h => hJ.putObj _ h (hD D hd) ho hc) hJk
      intro w hw
      refine ⟨_, results_none rfl _ _ _, ⟨_, rfl⟩, .inl hw⟩
end Go.Proofs.Ytfpdnmfklmgmfaa
