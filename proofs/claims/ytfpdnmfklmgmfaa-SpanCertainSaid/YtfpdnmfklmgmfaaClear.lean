/- What surely stays clear of the origin. -/
import Derived.Test.YtfpdnmfklmgmfaaCorners
namespace Go.Proofs.Ytfpdnmfklmgmfaa
open Go.RowKit Go.Shelf

attribute [local go_sem] Oper.semAt_some

def okA (a : Ar) : Prop := farA a.1 a.2.1 a.2.2.1 a.2.2.2 = true
theorem farV_corners {l : List Ar} (h : ∀ a ∈ l, okA a) : ∀ q ∈ cornersL l, farV q = true := by
  intro q hq
  unfold cornersL at hq
  rw [List.mem_flatMap] at hq
  obtain ⟨a, ha, hq⟩ := hq
  have := h a ha
  unfold okA farA at this
  simp only [Bool.and_eq_true] at this
  obtain ⟨h1, h2⟩ := mem_four hq
  unfold farV
  rcases h1 with h1 | h1 <;> rcases h2 with h2 | h2 <;> rw [h1, h2] <;> simp [this]

def cells8 (a b : Ar) : Array Value := #[.int .i64 a.1, .int .i64 a.2.1, .int .i64 a.2.2.1, .int .i64 a.2.2.2, .int .i64 b.1, .int .i64 b.2.1, .int .i64 b.2.2.1, .int .i64 b.2.2.2]
theorem corners2_seq (B Bs s : Nat) (a b : Ar) (t : TypeId) (w : World) (hBs : B ≤ Bs) (hs : B ≤ s) (x1 : Box w Bs #[.slice (some ⟨s, 0, none⟩) 2 2] 128) (x2 : Box w s (cells8 a b) t) :
    SeqN Fence.wide Try.prog 124 #[.pointer (some ⟨Bs, 0, none⟩)] (fun x : Int × Int => #[.agg #[.int .i64 x.1, .int .i64 x.2]]) (KeepsFrom B) (cornersL [a, b]) w :=
  corners1_seq B Bs s [a, b] _ t w hBs hs x1 x2 (by simp) (fun k hk => by
    have : k = 0 ∨ k = 1 := by simp at hk; omega
    rcases this with rfl | rfl
    · exact ⟨rfl, rfl, rfl, rfl⟩
    · exact ⟨rfl, rfl, rfl, rfl⟩)


def firstB (p : Int × Int) (a b : Ar) : Bool := (cornersL [a, b]).all fun q => !decide (crossV p.1 p.2 q.1 q.2 < 0)

theorem first_in (p : Int × Int) (a b : Ar) (hp : farV p = true) (ha : okA a) (hb : okA b) (w : World) :
    CallsIn Fence.wide 0 Try.prog 112 #[.agg #[.int .i64 p.1, .int .i64 p.2], .agg #[.int .i64 a.1, .int .i64 a.2.1, .int .i64 a.2.2.1, .int .i64 a.2.2.2], .agg #[.int .i64 b.1, .int .i64 b.2.1, .int .i64 b.2.2.1, .int .i64 b.2.2.2]] w
      fun e w' => e = .returned (.bool (firstB p a b)) ∧ Below w.heap.size w w' := by
  have hq := farV_corners (l := [a, b]) (by simp [ha, hb])
  obtain ⟨p0, p1⟩ := (farV_iff _).1 hp
  have HQ := hide hq
  clear hq
  (refine callsIn_of_wp_marks Try.func112 rfl trivial ?_ rfl; simp only [Try.ntmps112, List.size_toArray, List.length_cons, List.length_nil, Nat.reduceAdd, Nat.reduceSub, Array.replicate_succ, Array.replicate_zero, List.push_toArray, List.append_toArray, List.nil_append, List.cons_append])
  gi_wp2_with (refine ⟨trivial, rfl, ?_⟩; gi_at_call 111; refine (callsIn_wide.2 (corners_any _ _ _)).mono ?_; rintro _ _ ⟨rfl, rfl⟩)
  obtain ⟨wl, hwl⟩ : ∃ wl, ((((((w.alloc (.cells #[.int .i64 p.1, .int .i64 p.2] 23)).alloc (.cells #[.int .i64 a.1, .int .i64 a.2.1, .int .i64 a.2.2.1, .int .i64 a.2.2.2] 44)).alloc (.cells #[.int .i64 b.1, .int .i64 b.2.1, .int .i64 b.2.2.1, .int .i64 b.2.2.2] 44)).alloc (.cells #[.bool false] 4)).alloc (.cells (cells8 a b) 44)).alloc (.cells #[.slice (some ⟨w.heap.size + 1 + 1 + 1 + 1, 0, none⟩) 2 2] 128)) = wl := ⟨_, rfl⟩
  have xp : Box wl w.heap.size #[.int .i64 p.1, .int .i64 p.2] 23 := by rw [← hwl]; exact ((((((Box.mk (by simp)).alloc _).alloc _).alloc _).alloc _).alloc _)
  have xr : Box wl (w.heap.size + 1 + 1 + 1) #[.bool false] 4 := by rw [← hwl]; exact (((Box.mk (by simp)).alloc _).alloc _)
  have xs : Box wl (w.heap.size + 1 + 1 + 1 + 1) (cells8 a b) 44 := by rw [← hwl]; exact ((Box.mk (by simp)).alloc _)
  have xb : Box wl (w.heap.size + 1 + 1 + 1 + 1 + 1) #[.slice (some ⟨w.heap.size + 1 + 1 + 1 + 1, 0, none⟩) 2 2] 128 := by rw [← hwl]; exact Box.mk (by simp)
  have hsz : wl.heap.size = w.heap.size + 1 + 1 + 1 + 1 + 1 + 1 := by rw [← hwl]; simp
  have hB : Below w.heap.size w wl := by
    rw [← hwl]
    exact Up.below (by repeat (first | with_reducible exact Up.refl _ | apply Up.ext | apply Up.alloc))
  unfold cells8 at hwl
  rw [hwl]
  clear hwl
  refine range_outer rfl (fun _ => trivial) rfl (gf := 124) (lb := #[.pointer (some ⟨w.heap.size + 1 + 1 + 1 + 1 + 1, 0, none⟩)]) rfl (enters_of Try.func124 (by kernel_rfl) rfl)
    (corners2_seq (w.heap.size + 1 + 1 + 1 + 1) _ _ a b _ wl (by omega) (by omega) xb xs) (fun h k => h.trans k)
    (fun W L o o' _ ho hc => KeepsFrom.put W ho hc o') (Below.refl _ _) (fun _ => rfl) (Nat.zero_le _)
    (fun pre W => (pre.all fun q => !decide (crossV p.1 p.2 q.1 q.2 < 0)) = true ∧ wl.grownBy W none)
    (fun c' pre W => c' = .ret ∧ (pre.all fun q => !decide (crossV p.1 p.2 q.1 q.2 < 0)) = false ∧ Below w.heap.size w W ∧ Box W (w.heap.size + 1 + 1 + 1) #[.bool false] 4)
    ?hI ?hIx ⟨rfl, grown_refl _ _⟩
    (fun x => [.cells #[.int .i64 x.1, .int .i64 x.2] 23])
    (fun x z => { tmps := #[.agg #[.int .i64 p.1, .int .i64 p.2], .agg #[.int .i64 a.1, .int .i64 a.2.1, .int .i64 a.2.2.1, .int .i64 a.2.2.2], .agg #[.int .i64 b.1, .int .i64 b.2.1, .int .i64 b.2.2.1, .int .i64 b.2.2.2], .pointer (some ⟨w.heap.size, 0, none⟩), .pointer (some ⟨w.heap.size + 1, 0, none⟩), .pointer (some ⟨w.heap.size + 1 + 1, 0, none⟩), .pointer (some ⟨w.heap.size + 1 + 1 + 1, 0, none⟩), .pointer (some ⟨z, 0, none⟩), .agg #[.int .i64 a.1, .int .i64 a.2.1, .int .i64 a.2.2.1, .int .i64 a.2.2.2], .agg #[.int .i64 b.1, .int .i64 b.2.1, .int .i64 b.2.2.1, .int .i64 b.2.2.2], .slice (some ⟨w.heap.size + 1 + 1 + 1 + 1, 0, none⟩) 2 2,
      .func (.func 124) #[] #[.pointer (some ⟨w.heap.size + 1 + 1 + 1 + 1 + 1, 0, none⟩)], .agg #[.int .i64 x.1, .int .i64 x.2], undef, undef, undef, undef], defers := [] }) ?assign ?body ?done ?stop
  case assign =>
    intro L x W K hK
    gi_wp2
    exact hK
  case hI =>
    rintro pre W W' row ⟨h1, h2⟩ hg hr
    exact ⟨h1, grown_turn h2 hg (fun r e => (hr r e).1)⟩
  case hIx =>
    rintro c' pre W W' row ⟨h1, h2, h3, h4⟩ hg hr
    exact ⟨h1, h2, h3.grown hg h3.size (fun k e => by have := (hr k e).1; omega), h4.grown hg (fun e => by have := (hr _ e).1; omega)⟩
  case body =>
    rintro L pre x W hL _ ⟨h1, h2⟩ hnx
    obtain ⟨x0, x1⟩ := (farV_iff _).1 (HQ.out x (hnx.subset (by simp)))
    have hw0 := h2.size
    have bp := xp.grown h2 (by simp)
    have br := xr.grown h2 (by simp)
    have c0 := bp.cell 0 rfl
    have c1 := bp.cell 1 rfl
    have cr := br.cell 0 rfl
    have fr := br.frozen 0
    have lp := bp.lt
    have lr := br.lt
    have HX := hide (And.intro h1 (And.intro h2 br))
    clear h1 h2 hnx bp br xp xr xs xb
    dsimp only [news, List.foldl]
    gi_wp2_with (refine ⟨trivial, rfl, ?_⟩; gi_at_call 26; refine (CallsIn.inRound L (callsIn_wide.2 (cross_any _ _ _ _ (by omega) (by omega) (by omega) (by omega) (by omega) (by omega) (by omega) (by omega) _))).mono ?_; rintro _ _ ⟨rfl, _, rfl⟩)
    · obtain ⟨h1, h2, hbr⟩ := HX.out
      have hlt : crossV p.1 p.2 x.1 x.2 < 0 := by assumption
      refine ⟨above_of ((KeepsOthers.setCell _ _ _).trans (keepsOthers_up (((Up.refl _).alloc _).ext _))) 0, rfl, by simp [hlt], ?_, ((hbr.set 0 (.bool false)).alloc _).ext _⟩
      exact ((hB.grown h2 hB.size (fun k e => by cases e)).setCell (p := ⟨w.heap.size + 1 + 1 + 1, 0, none⟩) (by simp; omega) _).trans ((((Up.refl _).alloc _).ext _).trans_below (by simp [World.setCell]; omega))
    · obtain ⟨h1, h2, hbr⟩ := HX.out
      have hge : 0 ≤ crossV p.1 p.2 x.1 x.2 := by assumption
      refine ⟨keepsOthers_up (((Up.refl _).alloc _).ext _), fun k o _ ho _ => ((((Up.refl W).alloc _).ext _).below.block k (Array.getElem?_eq_some_iff.1 ho).1).trans ho, ?_, grown_up h2 (((Up.refl _).alloc _).ext _)⟩
      rw [List.all_append, h1]
      simp; omega
  case done =>
    rintro D W hD ⟨h1, h2⟩ hK
    have hw0 := h2.size
    have br := xr.grown h2 (by simp)
    have cr := br.cell 0 rfl
    have fr := br.frozen 0
    have lr := br.lt
    have HX := hide (And.intro h2 br)
    have HK := hide hK
    have HE : firstB p a b = true := h1
    have HC := hide HE
    clear h1 h2 br xp xr xs xb hK HE
    gi_wp2
    have hK4 := (KeepsOthers.setCell W ⟨w.heap.size + 1 + 1 + 1, 0, none⟩ (.bool true)).same D _ HK.out rfl
    refine ⟨by simp, .inl ⟨_, _, rfl, run_takeDeferred hK4, ?_⟩⟩
    have q := (HX.out.2.set 0 (.bool true)).put (D := D) (by omega) (.deferred none)
    have z := q.cell 0 (v := .bool true) rfl
    refine ⟨.bool true, ?_, by rw [HC.out], below_put ((hB.grown HX.out.1 hB.size (fun k e => by cases e)).setCell (p := ⟨w.heap.size + 1 + 1 + 1, 0, none⟩) (by simp; omega) _) (by have := hB.size; omega) _⟩
    revert z
    generalize World.putObj _ D _ = WF
    intro z
    simp [results, Try.results112, go_sem, z]
  case stop =>
    rintro D c' pre W hD hpre ⟨rfl, h1, h2, h3⟩ hK
    have HE : firstB p a b = false := by
      obtain ⟨post, hpost⟩ := hpre
      unfold firstB
      rw [← hpost, List.all_append, h1]
      rfl
    have HC := hide HE
    have HK := hide hK
    have HX := hide (And.intro h2 h3)
    clear h1 h2 h3 hK HE xp xr xs xb hpre
    gi_wp2
    refine ⟨by simp, .inl ⟨_, _, rfl, run_takeDeferred HK.out, ?_⟩⟩
    have q := HX.out.2.put (D := D) (by omega) (.deferred none)
    have z := q.cell 0 (v := .bool false) rfl
    refine ⟨.bool false, ?_, by rw [HC.out], below_put HX.out.1 (by have := hB.size; omega) _⟩
    revert z
    generalize World.putObj _ D _ = WF
    intro z
    simp [results, Try.results112, go_sem, z]

theorem first_any (p : Int × Int) (a b : Ar) (hp : farV p = true) (ha : okA a) (hb : okA b) (w : World) :
    Gives Try.prog 112 #[.agg #[.int .i64 p.1, .int .i64 p.2], .agg #[.int .i64 a.1, .int .i64 a.2.1, .int .i64 a.2.2.1, .int .i64 a.2.2.2], .agg #[.int .i64 b.1, .int .i64 b.2.1, .int .i64 b.2.2.1, .int .i64 b.2.2.2]] w (.bool (firstB p a b)) :=
  Calls.mono (callsIn_wide.1 (first_in p a b hp ha hb w)) fun _ _ ⟨he, hb⟩ => ⟨he, Up.of_below hb⟩

def rightB (a b : Ar) (r : Int) : Bool := (areaE a.1 a.2.1 a.2.2.1 a.2.2.2 == 0 && areaE b.1 b.2.1 b.2.2.1 b.2.2.2 == 0) && withinB r 0 268435456
theorem right_any (a b : Ar) (r : Int) (w : World) :
    Gives Try.prog 103 #[.agg #[.int .i64 a.1, .int .i64 a.2.1, .int .i64 a.2.2.1, .int .i64 a.2.2.2], .agg #[.int .i64 b.1, .int .i64 b.2.1, .int .i64 b.2.2.1, .int .i64 b.2.2.2], .int .i64 r] w (.bool (rightB a b r)) := by
  (unfold Gives; go_enter Try.func103, Try.ntmps103)
  go_wp2_with (first | (go_at_call 47; refine (checkarea_any _ _ _ _ _).mono ?_; intro _) | (go_at_call 96; refine (within_any _ _ _ _).mono ?_; intro _))
  all_goals (go_ret; refine ⟨ret_bool ?_, (by repeat (first | with_reducible exact Up.refl _ | apply Up.ext | apply Up.alloc | apply Up.drew | (refine Up.setCell ?_ (by simp; try omega) _)))⟩)
  all_goals (go_light; first | (simp_all [rightB]; done) | (simp_all [rightB]; omega) | (simp_all [rightB]; repeat' split; all_goals (first | (simp_all; done) | omega | (simp_all; omega))))

theorem right_ok {a b : Ar} {r : Int} (h : rightB a b r = true) : okA a ∧ okA b ∧ 0 ≤ r ∧ r ≤ 268435456 := by
  unfold rightB at h
  simp only [Bool.and_eq_true, beq_iff_eq, withinB, decide_eq_true_eq] at h
  have g : ∀ c : Ar, areaE c.1 c.2.1 c.2.2.1 c.2.2.2 = 0 → okA c := fun c hc => by
    unfold areaE at hc
    split at hc
    · split at hc
      · assumption
      · omega
    · exact absurd hc (by assumption)
  exact ⟨g a h.1.1, g b h.1.2, h.2⟩

/-- no segment between two of the corners comes within r -/
def apartB (a b : Ar) (r : Int) : Bool := (cornersL [a, b]).all fun p => (cornersL [a, b]).all fun q => !comesB p.1 p.2 q.1 q.2 r
/-- of no corner all corners lie on one side -/
def amidB (a b : Ar) : Bool := (cornersL [a, b]).all fun p => !firstB p a b
def clearB (a b : Ar) (r : Int) : Bool := rightB a b r && (apartB a b r && !amidB a b)

theorem all_false {α : Type} {F : α → Bool} {pre xs : List α} (h : pre <+: xs) (h1 : pre.all F = false) : xs.all F = false := by
  obtain ⟨post, hpost⟩ := h
  rw [← hpost, List.all_append, h1]
  rfl
theorem keepsOthers_grown {A W W' : World} {row : Option Nat} (h : KeepsOthers A W) (hg : W.grownBy W' row) (hr : ∀ r, row = some r → A.heap.size ≤ r) : KeepsOthers A W' :=
  ⟨Nat.le_trans h.size hg.size, fun k o ho hc => (hg.block k (Nat.lt_of_lt_of_le (Array.getElem?_eq_some_iff.1 ho).1 h.size) (fun e => by have := hr k e.symm; have := (Array.getElem?_eq_some_iff.1 ho).1; omega)).trans (h.same k o ho hc)⟩
theorem keepsFrom_grown {B : Nat} {A W : World} (hg : A.grownBy W none) : KeepsFrom B A W := fun k o _ ho _ => (hg.block k (Array.getElem?_eq_some_iff.1 ho).1 (by simp)).trans ho
theorem grown_trans {A W W' : World} (h : A.grownBy W none) (hg : W.grownBy W' none) : A.grownBy W' none := grown_turn h hg (fun r e => by cases e)
theorem grown_of_up {A W : World} (h : Up A W) : A.grownBy W none := grown_up (grown_refl A none) h
theorem below_none {A W W' : World} (h : Below A.heap.size A W) (hg : W.grownBy W' none) : Below A.heap.size A W' := h.grown hg h.size (fun k e => by cases e)

set_option maxHeartbeats 2000000 in
theorem clear_in (a b : Ar) (r : Int) (hr : rightB a b r = true) (w : World) :
    CallsIn Fence.wide 0 Try.prog 65 #[.agg #[.int .i64 a.1, .int .i64 a.2.1, .int .i64 a.2.2.1, .int .i64 a.2.2.2], .agg #[.int .i64 b.1, .int .i64 b.2.1, .int .i64 b.2.2.1, .int .i64 b.2.2.2], .int .i64 r] w
      fun e w' => e = .returned (.bool (apartB a b r && !amidB a b)) ∧ Below w.heap.size w w' := by
  obtain ⟨ha, hb, hr0, hr1⟩ := right_ok hr
  have hq := farV_corners (l := [a, b]) (by simp [ha, hb])
  have HQ := hide hq
  clear hq
  (refine callsIn_of_wp_marks Try.func65 rfl trivial ?_ rfl; simp only [Try.ntmps65, List.size_toArray, List.length_cons, List.length_nil, Nat.reduceAdd, Nat.reduceSub, Array.replicate_succ, Array.replicate_zero, List.push_toArray, List.append_toArray, List.nil_append, List.cons_append])
  gi_wp2_with (first | (refine ⟨trivial, rfl, ?_⟩; gi_at_call 103; refine (callsIn_wide.2 (right_any _ _ _ _)).mono ?_; rintro _ _ ⟨rfl, px, rfl⟩) | (refine ⟨trivial, rfl, ?_⟩; gi_at_call 111; refine (callsIn_wide.2 (corners_any _ _ _)).mono ?_; rintro _ _ ⟨rfl, rfl⟩))
  obtain ⟨O, hO⟩ : ∃ O, w.heap.size + 1 + 1 + 1 + 1 + px.os.size = O := ⟨_, rfl⟩
  obtain ⟨wl, hwl⟩ : ∃ wl, (((ext ((((w.alloc (.cells #[.int .i64 a.1, .int .i64 a.2.1, .int .i64 a.2.2.1, .int .i64 a.2.2.2] 44)).alloc (.cells #[.int .i64 b.1, .int .i64 b.2.1, .int .i64 b.2.2.1, .int .i64 b.2.2.2] 44)).alloc (.cells #[.int .i64 r] 2)).alloc (.cells #[.bool false] 4)) px).alloc (.cells (cells8 a b) 44)).alloc (.cells #[.slice (some ⟨w.heap.size + 1 + 1 + 1 + 1 + px.os.size, 0, none⟩) 2 2] 128)) = wl := ⟨_, rfl⟩
  have xa : Box wl w.heap.size #[.int .i64 a.1, .int .i64 a.2.1, .int .i64 a.2.2.1, .int .i64 a.2.2.2] 44 := by rw [← hwl]; exact ((((((Box.mk (by simp)).alloc _).alloc _).alloc _).ext _).alloc _).alloc _
  have xb : Box wl (w.heap.size + 1) #[.int .i64 b.1, .int .i64 b.2.1, .int .i64 b.2.2.1, .int .i64 b.2.2.2] 44 := by rw [← hwl]; exact (((((Box.mk (by simp)).alloc _).alloc _).ext _).alloc _).alloc _
  have xr : Box wl (w.heap.size + 1 + 1) #[.int .i64 r] 2 := by rw [← hwl]; exact ((((Box.mk (by simp)).alloc _).ext _).alloc _).alloc _
  have xt : Box wl (w.heap.size + 1 + 1 + 1) #[.bool false] 4 := by rw [← hwl]; exact (((Box.mk (by simp)).ext _).alloc _).alloc _
  have xs : Box wl O (cells8 a b) 44 := by rw [← hwl, ← hO]; exact (Box.mk (by simp)).alloc _
  have xc : Box wl (O + 1) #[.slice (some ⟨O, 0, none⟩) 2 2] 128 := by rw [← hwl, ← hO]; exact Box.mk (by simp)
  have hsz : wl.heap.size = O + 1 + 1 := by rw [← hwl, ← hO]; simp
  have hB : Below w.heap.size w wl := by
    rw [← hwl]
    exact Up.below (by repeat (first | with_reducible exact Up.refl _ | apply Up.ext | apply Up.alloc))
  unfold cells8 at hwl
  rw [hwl, hO]
  have hOl : w.heap.size + 1 + 1 + 1 + 1 ≤ O := by omega
  clear hwl hO
  refine range_outer rfl (fun _ => trivial) rfl (gf := 124) (lb := #[.pointer (some ⟨O + 1, 0, none⟩)]) rfl (enters_of Try.func124 (by kernel_rfl) rfl)
    (corners2_seq O _ _ a b _ wl (by omega) (by omega) xc xs) (fun h k => h.trans k)
    (fun W L o o' _ ho hc => KeepsFrom.put W ho hc o') (Below.refl _ _) (fun _ => rfl) (Nat.zero_le _)
    (fun pre W => (pre.all fun p => (cornersL [a, b]).all fun q => !comesB p.1 p.2 q.1 q.2 r) = true ∧ wl.grownBy W none)
    (fun c' pre W => c' = .ret ∧ (pre.all fun p => (cornersL [a, b]).all fun q => !comesB p.1 p.2 q.1 q.2 r) = false ∧ Below w.heap.size w W ∧ Box W (w.heap.size + 1 + 1 + 1) #[.bool false] 4)
    ?hI ?hIx ⟨rfl, grown_refl _ _⟩
    (fun x => [.cells #[.int .i64 x.1, .int .i64 x.2] 23])
    (fun x z => { tmps := #[.agg #[.int .i64 a.1, .int .i64 a.2.1, .int .i64 a.2.2.1, .int .i64 a.2.2.2], .agg #[.int .i64 b.1, .int .i64 b.2.1, .int .i64 b.2.2.1, .int .i64 b.2.2.2], .int .i64 r, .pointer (some ⟨w.heap.size, 0, none⟩), .pointer (some ⟨w.heap.size + 1, 0, none⟩), .pointer (some ⟨w.heap.size + 1 + 1, 0, none⟩), .pointer (some ⟨w.heap.size + 1 + 1 + 1, 0, none⟩), .pointer (some ⟨z, 0, none⟩), undef, undef, .agg #[.int .i64 a.1, .int .i64 a.2.1, .int .i64 a.2.2.1, .int .i64 a.2.2.2], .agg #[.int .i64 b.1, .int .i64 b.2.1, .int .i64 b.2.2.1, .int .i64 b.2.2.2], .int .i64 r, .bool true, .bool false, .agg #[.int .i64 a.1, .int .i64 a.2.1, .int .i64 a.2.2.1, .int .i64 a.2.2.2], .agg #[.int .i64 b.1, .int .i64 b.2.1, .int .i64 b.2.2.1, .int .i64 b.2.2.2], .slice (some ⟨O, 0, none⟩) 2 2, .func (.func 124) #[] #[.pointer (some ⟨O + 1, 0, none⟩)], .agg #[.int .i64 x.1, .int .i64 x.2], undef, undef, undef, undef, undef, undef, undef, undef, undef, undef, undef, undef, undef, undef, undef, undef, undef, undef], defers := [] }) ?assign ?body ?done ?stop
  case assign =>
    intro L x W K hK
    gi_wp2
    exact hK
  case hI =>
    rintro pre W W' row ⟨h1, h2⟩ hg hr
    exact ⟨h1, grown_turn h2 hg (fun r e => (hr r e).1)⟩
  case hIx =>
    rintro c' pre W W' row ⟨h1, h2, h3, h4⟩ hg hr
    exact ⟨h1, h2, h3.grown hg h3.size (fun k e => by have := (hr k e).1; omega), h4.grown hg (fun e => by have := (hr _ e).1; omega)⟩
  case body =>
    rintro L pre x W hL ⟨q0, hq0⟩ ⟨h1, h2⟩ hnx
    have hxf := HQ.out x (hnx.subset (by simp))
    obtain ⟨x0, x1⟩ := (farV_iff _).1 hxf
    have hw0 := h2.size
    have ba := xa.grown h2 (by simp)
    have bb := xb.grown h2 (by simp)
    have ca0 := ba.cell 0 rfl
    have ca1 := ba.cell 1 rfl
    have ca2 := ba.cell 2 rfl
    have ca3 := ba.cell 3 rfl
    have cb0 := bb.cell 0 rfl
    have cb1 := bb.cell 1 rfl
    have cb2 := bb.cell 2 rfl
    have cb3 := bb.cell 3 rfl
    have la := ba.lt
    have lb := bb.lt
    have HX := hide (And.intro h1 (And.intro h2 (And.intro hnx hq0)))
    have HW := hide (And.intro xr xt)
    clear h1 h2 hnx ba bb xa xb xr xt xs xc hq0
    dsimp only [news, List.foldl]
    gi_wp2_with (refine ⟨trivial, rfl, ?_⟩; gi_at_call 111; refine (CallsIn.inRound L (callsIn_wide.2 (corners_any _ _ _))).mono ?_; rintro _ _ ⟨rfl, rfl⟩)
    obtain ⟨wm, hwm⟩ : ∃ wm, (((W.alloc (.cells #[.int .i64 x.1, .int .i64 x.2] 23)).alloc (.cells (cells8 a b) 44)).alloc (.cells #[.slice (some ⟨W.heap.size + 1, 0, none⟩) 2 2] 128)) = wm := ⟨_, rfl⟩
    have yp : Box wm W.heap.size #[.int .i64 x.1, .int .i64 x.2] 23 := by rw [← hwm]; exact ((Box.mk (by simp)).alloc _).alloc _
    have ys : Box wm (W.heap.size + 1) (cells8 a b) 44 := by rw [← hwm]; exact (Box.mk (by simp)).alloc _
    have yc : Box wm (W.heap.size + 1 + 1) #[.slice (some ⟨W.heap.size + 1, 0, none⟩) 2 2] 128 := by rw [← hwm]; exact Box.mk (by simp)
    have hup : Up W wm := by rw [← hwm]; exact (((Up.refl _).alloc _).alloc _).alloc _
    have hsm : wm.heap.size = W.heap.size + 1 + 1 + 1 := by rw [← hwm]; simp
    unfold cells8 at hwm
    rw [hwm]
    clear hwm
    obtain ⟨h1, h2, hnx, hq0⟩ := HX.out
    have hlq : wm.heap[L]? = some (.loop q0) := (hup.below.block L (Array.getElem?_eq_some_iff.1 hq0).1).trans hq0
    have h2m : wl.grownBy wm none := grown_up h2 hup
    have zr := HW.out.1.grown h2m (by simp)
    have zt := HW.out.2.grown h2m (by simp)
    have hBm := below_none hB h2m
    refine range_inner rfl (fun _ => trivial) (l₀ := L) rfl hlq (gf := 124) (lb := #[.pointer (some ⟨W.heap.size + 1 + 1, 0, none⟩)]) rfl (enters_of Try.func124 (by kernel_rfl) rfl)
      (SeqN.inRound L (corners2_seq (W.heap.size + 1) _ _ a b _ wm (by omega) (by omega) yc ys)) (fun h k => h.trans k)
      (fun W L o o' _ ho hc => KeepsFrom.put W ho hc o') (Below.refl _ _) (fun _ => rfl) (Nat.zero_le _)
      (fun pre2 W2 => (pre2.all fun q => !comesB x.1 x.2 q.1 q.2 r) = true ∧ wm.grownBy W2 none)
      (fun c' pre2 W2 => c' = .ret ∧ (pre2.all fun q => !comesB x.1 x.2 q.1 q.2 r) = false ∧ Below w.heap.size w W2 ∧ Box W2 (w.heap.size + 1 + 1 + 1) #[.bool false] 4 ∧ KeepsOthers W W2)
      ?hI2 ?hIx2 ⟨rfl, grown_refl _ _⟩
      (fun y => [.cells #[.int .i64 y.1, .int .i64 y.2] 23])
      (fun y z => { tmps := #[.agg #[.int .i64 a.1, .int .i64 a.2.1, .int .i64 a.2.2.1, .int .i64 a.2.2.2], .agg #[.int .i64 b.1, .int .i64 b.2.1, .int .i64 b.2.2.1, .int .i64 b.2.2.2], .int .i64 r, .pointer (some ⟨w.heap.size, 0, none⟩), .pointer (some ⟨w.heap.size + 1, 0, none⟩), .pointer (some ⟨w.heap.size + 1 + 1, 0, none⟩), .pointer (some ⟨w.heap.size + 1 + 1 + 1, 0, none⟩), .pointer (some ⟨W.heap.size, 0, none⟩), .pointer (some ⟨z, 0, none⟩), undef, .agg #[.int .i64 a.1, .int .i64 a.2.1, .int .i64 a.2.2.1, .int .i64 a.2.2.2], .agg #[.int .i64 b.1, .int .i64 b.2.1, .int .i64 b.2.2.1, .int .i64 b.2.2.2], .int .i64 r, .bool true, .bool false, .agg #[.int .i64 a.1, .int .i64 a.2.1, .int .i64 a.2.2.1, .int .i64 a.2.2.2], .agg #[.int .i64 b.1, .int .i64 b.2.1, .int .i64 b.2.2.1, .int .i64 b.2.2.2], .slice (some ⟨O, 0, none⟩) 2 2, .func (.func 124) #[] #[.pointer (some ⟨O + 1, 0, none⟩)], .agg #[.int .i64 x.1, .int .i64 x.2], .agg #[.int .i64 a.1, .int .i64 a.2.1, .int .i64 a.2.2.1, .int .i64 a.2.2.2], .agg #[.int .i64 b.1, .int .i64 b.2.1, .int .i64 b.2.2.1, .int .i64 b.2.2.2], .slice (some ⟨W.heap.size + 1, 0, none⟩) 2 2, .func (.func 124) #[] #[.pointer (some ⟨W.heap.size + 1 + 1, 0, none⟩)], .agg #[.int .i64 y.1, .int .i64 y.2], undef, undef, undef, undef, undef, undef, undef, undef, undef, undef, undef, undef, undef], defers := [] }) ?assign2 ?body2 ?done2 ?stop2
    case assign2 =>
      intro L x W K hK
      gi_wp2
      exact hK
    case hI2 =>
      rintro pre W W' row ⟨h1, h2⟩ hg hr
      exact ⟨h1, grown_turn h2 hg (fun r e => (hr r e).1)⟩
    case hIx2 =>
      rintro c' pre W2 W' row ⟨h1, h2, h3, h4, h5⟩ hg hr
      exact ⟨h1, h2, h3.grown hg h3.size (fun k e => by have := (hr k e).1; omega), h4.grown hg (fun e => by have := (hr _ e).1; omega), keepsOthers_grown h5 hg (fun r e => by have := (hr r e).1; omega)⟩
    case body2 =>
      rintro L2 pre2 y W2 hL2 _ ⟨k1, k2⟩ kny
      obtain ⟨y0, y1⟩ := (farV_iff _).1 (HQ.out y (kny.subset (by simp)))
      have hw2 := k2.size
      have bp := yp.grown k2 (by simp)
      have br := zr.grown k2 (by simp)
      have bt := zt.grown k2 (by simp)
      have cp0 := bp.cell 0 rfl
      have cp1 := bp.cell 1 rfl
      have cr := br.cell 0 rfl
      have ct := bt.cell 0 rfl
      have ft := bt.frozen 0
      have lp := bp.lt
      have lr := br.lt
      have lt := bt.lt
      have HY := hide (And.intro k1 (And.intro k2 bt))
      have HU := hide (And.intro hup (And.intro hBm h2m))
      clear k1 k2 kny bp br bt yp ys yc zr zt h1 h2 hnx hq0 hlq h2m hBm hup ca0 ca1 ca2 ca3 cb0 cb1 cb2 cb3
      dsimp only [news, List.foldl]
      gi_wp2_with (refine ⟨trivial, rfl, ?_⟩; gi_at_call 77; refine (CallsIn.inRound L (callsIn_wide.2 (comes_any _ _ _ _ _ (by omega) (by omega) (by omega) (by omega) (by omega) (by omega) (by omega) (by omega) (by omega) (by omega) _))).mono ?_; rintro _ _ ⟨rfl, _, rfl⟩)
      · obtain ⟨k1, k2, bt⟩ := HY.out
        obtain ⟨hup, hBm, h2m⟩ := HU.out
        have hc : comesB x.1 x.2 y.1 y.2 r = true := by assumption
        refine ⟨above_of ((KeepsOthers.setCell _ _ _).trans (keepsOthers_up (((Up.refl _).alloc _).ext _))) 0, rfl, by simp [hc], ?_, ((bt.set 0 (.bool false)).alloc _).ext _, ?_⟩
        · exact ((below_none hBm k2).setCell (p := ⟨w.heap.size + 1 + 1 + 1, 0, none⟩) (by simp; omega) _).trans ((((Up.refl _).alloc _).ext _).trans_below (by simp [World.setCell]; omega))
        · exact ((keepsOthers_grown (keepsOthers_up hup) k2 (by simp)).trans (KeepsOthers.setCell _ _ _)).trans (keepsOthers_up (((Up.refl _).alloc _).ext _))
      · obtain ⟨k1, k2, bt⟩ := HY.out
        have hc : comesB x.1 x.2 y.1 y.2 r = false := by assumption
        refine ⟨keepsOthers_up (((Up.refl _).alloc _).ext _), fun k o _ ho _ => ((((Up.refl W2).alloc _).ext _).below.block k (Array.getElem?_eq_some_iff.1 ho).1).trans ho, ?_, grown_up k2 (((Up.refl _).alloc _).ext _)⟩
        rw [List.all_append, k1]
        simp [hc]
    case done2 =>
      rintro W2 ⟨k1, k2⟩ hl2
      have HG := hide (And.intro (grown_trans (grown_of_up hup) k2) (And.intro h2m (And.intro k1 (And.intro k2 h1))))
      clear k1 k2 h1 h2 h2m hup
      gi_wp2
      obtain ⟨g1, h2m, k1, k2, h1⟩ := HG.out
      refine ⟨keepsOthers_grown (KeepsOthers.refl W) g1 (by simp), keepsFrom_grown g1, ?_, grown_trans h2m k2⟩
      rw [List.all_append, h1]
      simp [k1]
    case stop2 =>
      rintro c' pre2 W2 hpre2 ⟨rfl, k1, k2, k3, k4⟩ hl2
      have hall : ((cornersL [a, b]).all fun q => !comesB x.1 x.2 q.1 q.2 r) = false := by
        obtain ⟨post, hpost⟩ := hpre2
        rw [← hpost, List.all_append, k1]
        rfl
      have HG := hide (And.intro hall (And.intro k2 (And.intro k3 k4)))
      clear hall k1 k2 k3 k4 h1 h2 h2m hup hpre2
      gi_wp2
      obtain ⟨hall, k2, k3, k4⟩ := HG.out
      exact ⟨above_of k4 0, rfl, by rw [List.all_append]; simp [hall], k2, k3⟩
  case done =>
    rintro D W hD ⟨h1, h2⟩ hK
    have hw0 := h2.size
    have ba := xa.grown h2 (by simp)
    have bb := xb.grown h2 (by simp)
    have bt := xt.grown h2 (by simp)
    have ca0 := ba.cell 0 rfl
    have ca1 := ba.cell 1 rfl
    have ca2 := ba.cell 2 rfl
    have ca3 := ba.cell 3 rfl
    have cb0 := bb.cell 0 rfl
    have cb1 := bb.cell 1 rfl
    have cb2 := bb.cell 2 rfl
    have cb3 := bb.cell 3 rfl
    have la := ba.lt
    have lb := bb.lt
    have hap : apartB a b r = true := h1
    have HX := hide (And.intro hap (And.intro h2 (And.intro hK (And.intro ba (And.intro bb bt)))))
    clear h1 h2 hK ba bb bt xa xb xr xt xs xc hap
    gi_wp2_with (refine ⟨trivial, rfl, ?_⟩; gi_at_call 111; refine (callsIn_wide.2 (corners_any _ _ _)).mono ?_; rintro _ _ ⟨rfl, rfl⟩)
    obtain ⟨wm, hwm⟩ : ∃ wm, ((W.alloc (.cells (cells8 a b) 44)).alloc (.cells #[.slice (some ⟨W.heap.size, 0, none⟩) 2 2] 128)) = wm := ⟨_, rfl⟩
    have ys : Box wm W.heap.size (cells8 a b) 44 := by rw [← hwm]; exact (Box.mk (by simp)).alloc _
    have yc : Box wm (W.heap.size + 1) #[.slice (some ⟨W.heap.size, 0, none⟩) 2 2] 128 := by rw [← hwm]; exact Box.mk (by simp)
    have hup : Up W wm := by rw [← hwm]; exact ((Up.refl _).alloc _).alloc _
    have hsm : wm.heap.size = W.heap.size + 1 + 1 := by rw [← hwm]; simp
    unfold cells8 at hwm
    rw [hwm]
    clear hwm
    obtain ⟨hap, h2, hK, ba, bb, bt⟩ := HX.out
    have za := ba.up hup
    have zb := bb.up hup
    have zt := bt.up hup
    have hDl : D < W.heap.size := (Array.getElem?_eq_some_iff.1 hK).1
    have hKm : wm.heap[D]? = some (.deferred (some [])) := (hup.below.block D hDl).trans hK
    have hBm : Below w.heap.size w wm := below_none hB (grown_up h2 hup)
    clear ca0 ca1 ca2 ca3 cb0 cb1 cb2 cb3 ba bb bt hK h2
    refine range_outer rfl (fun _ => trivial) rfl (gf := 124) (lb := #[.pointer (some ⟨W.heap.size + 1, 0, none⟩)]) rfl (enters_of Try.func124 (by kernel_rfl) rfl)
      (corners2_seq W.heap.size _ _ a b _ wm (by omega) (by omega) yc ys) (fun h k => h.trans k)
      (fun W L o o' _ ho hc => KeepsFrom.put W ho hc o') (Below.refl _ _) (fun _ => rfl) (Nat.zero_le _)
      (fun pre W3 => (pre.all fun p => !firstB p a b) = true ∧ wm.grownBy W3 none)
      (fun c' pre W3 => c' = .ret ∧ (pre.all fun p => !firstB p a b) = false ∧ Below w.heap.size w W3 ∧ Box W3 (w.heap.size + 1 + 1 + 1) #[.bool true] 4 ∧ W3.heap[D]? = some (.deferred (some [])))
      ?hI3 ?hIx3 ⟨rfl, grown_refl _ _⟩
      (fun x => [.cells #[.int .i64 x.1, .int .i64 x.2] 23])
      (fun x z => { tmps := #[.agg #[.int .i64 a.1, .int .i64 a.2.1, .int .i64 a.2.2.1, .int .i64 a.2.2.2], .agg #[.int .i64 b.1, .int .i64 b.2.1, .int .i64 b.2.2.1, .int .i64 b.2.2.2], .int .i64 r, .pointer (some ⟨w.heap.size, 0, none⟩), .pointer (some ⟨w.heap.size + 1, 0, none⟩), .pointer (some ⟨w.heap.size + 1 + 1, 0, none⟩), .pointer (some ⟨w.heap.size + 1 + 1 + 1, 0, none⟩), undef, undef, .pointer (some ⟨z, 0, none⟩), .agg #[.int .i64 a.1, .int .i64 a.2.1, .int .i64 a.2.2.1, .int .i64 a.2.2.2], .agg #[.int .i64 b.1, .int .i64 b.2.1, .int .i64 b.2.2.1, .int .i64 b.2.2.2], .int .i64 r, .bool true, .bool false, .agg #[.int .i64 a.1, .int .i64 a.2.1, .int .i64 a.2.2.1, .int .i64 a.2.2.2], .agg #[.int .i64 b.1, .int .i64 b.2.1, .int .i64 b.2.2.1, .int .i64 b.2.2.2], .slice (some ⟨O, 0, none⟩) 2 2, .func (.func 124) #[] #[.pointer (some ⟨O + 1, 0, none⟩)], undef, undef, undef, undef, undef, undef, undef, undef, undef, undef, .agg #[.int .i64 a.1, .int .i64 a.2.1, .int .i64 a.2.2.1, .int .i64 a.2.2.2], .agg #[.int .i64 b.1, .int .i64 b.2.1, .int .i64 b.2.2.1, .int .i64 b.2.2.2], .slice (some ⟨W.heap.size, 0, none⟩) 2 2, .func (.func 124) #[] #[.pointer (some ⟨W.heap.size + 1, 0, none⟩)], .agg #[.int .i64 x.1, .int .i64 x.2], undef, undef, undef, undef], defers := [] }) ?assign3 ?body3 ?done3 ?stop3
    case assign3 =>
      intro L x W K hK
      gi_wp2
      exact hK
    case hI3 =>
      rintro pre W W' row ⟨h1, h2⟩ hg hr
      exact ⟨h1, grown_turn h2 hg (fun r e => (hr r e).1)⟩
    case hIx3 =>
      rintro c' pre W3 W' row ⟨h1, h2, h3, h4, h5⟩ hg hr
      exact ⟨h1, h2, h3.grown hg h3.size (fun k e => by have := (hr k e).1; omega), h4.grown hg (fun e => by have := (hr _ e).1; omega),
        (hg.block D (Array.getElem?_eq_some_iff.1 h5).1 (fun e => by have := (hr D e.symm).1; omega)).trans h5⟩
    case body3 =>
      rintro L pre2 y W2 hL2 _ ⟨k1, k2⟩ kny
      have hyf := HQ.out y (kny.subset (by simp))
      have hw2 := k2.size
      have ba := za.grown k2 (by simp)
      have bb := zb.grown k2 (by simp)
      have bt := zt.grown k2 (by simp)
      have hKb : W2.heap[D]? = some (.deferred (some [])) := (k2.block D (by omega) (by simp)).trans hKm
      have ca0 := ba.cell 0 rfl
      have ca1 := ba.cell 1 rfl
      have ca2 := ba.cell 2 rfl
      have ca3 := ba.cell 3 rfl
      have cb0 := bb.cell 0 rfl
      have cb1 := bb.cell 1 rfl
      have cb2 := bb.cell 2 rfl
      have cb3 := bb.cell 3 rfl
      have ct := bt.cell 0 rfl
      have ft := bt.frozen 0
      have la := ba.lt
      have lb := bb.lt
      have lt := bt.lt
      have HY := hide (And.intro k1 (And.intro k2 (And.intro bt hKb)))
      have HU := hide (And.intro hup hBm)
      clear k1 k2 kny ba bb bt hKb ys yc za zb zt hup hBm hKm
      dsimp only [news, List.foldl]
      gi_wp2_with (refine ⟨trivial, rfl, ?_⟩; gi_at_call 112; refine (CallsIn.inRound L (callsIn_wide.2 (first_any y a b hyf ha hb _))).mono ?_; rintro _ _ ⟨rfl, _, rfl⟩)
      · obtain ⟨k1, k2, bt, hKb⟩ := HY.out
        obtain ⟨hup, hBm⟩ := HU.out
        have hc : firstB y a b = true := by assumption
        refine ⟨above_of ((KeepsOthers.setCell _ _ _).trans (keepsOthers_up (((Up.refl _).alloc _).ext _))) 0, rfl, by simp [hc], ?_, ((bt.set 0 (.bool true)).alloc _).ext _, ?_⟩
        · exact ((below_none hBm k2).setCell (p := ⟨w.heap.size + 1 + 1 + 1, 0, none⟩) (by simp; omega) _).trans ((((Up.refl _).alloc _).ext _).trans_below (by simp [World.setCell]; omega))
        · exact ((KeepsOthers.setCell _ _ _).trans (keepsOthers_up (((Up.refl _).alloc _).ext _))).same D _ hKb rfl
      · obtain ⟨k1, k2, bt, hKb⟩ := HY.out
        have hc : firstB y a b = false := by assumption
        refine ⟨keepsOthers_up (((Up.refl _).alloc _).ext _), fun k o _ ho _ => ((((Up.refl W2).alloc _).ext _).below.block k (Array.getElem?_eq_some_iff.1 ho).1).trans ho, ?_, grown_up k2 (((Up.refl _).alloc _).ext _)⟩
        rw [List.all_append, k1]
        simp [hc]
    case done3 =>
      rintro D2 W3 hD2 ⟨k1, k2⟩ hK2
      have hw3 := k2.size
      have bt := zt.grown k2 (by simp)
      have ct := bt.cell 0 rfl
      have ft := bt.frozen 0
      have lt := bt.lt
      have hKb : W3.heap[D]? = some (.deferred (some [])) := (k2.block D (by omega) (by simp)).trans hKm
      have HE : (apartB a b r && !amidB a b) = false := by rw [hap, show amidB a b = true from k1]; rfl
      have HY := hide (And.intro HE (And.intro (below_none hBm k2) (And.intro bt (And.intro hKb hK2))))
      clear HE bt hKb hK2 k1 k2 ys yc za zb zt hup hBm hKm hap
      gi_wp2
      obtain ⟨HE, hBW, bt, hKb, hK2⟩ := HY.out
      have hks := KeepsOthers.setCell W3 ⟨w.heap.size + 1 + 1 + 1, 0, none⟩ (.bool false)
      refine leaves_marks (Ds := [D2, D]) (fun wz => Box wz (w.heap.size + 1 + 1 + 1) #[.bool false] 4 ∧ Below w.heap.size w wz) ?_ _
        ((Marks.cons ((Marks.nil _).cons (hks.same D _ hKb rfl) (by simp)) (hks.same D2 _ hK2 rfl) (by simp; omega))) ?_ ⟨bt.set 0 (.bool false), hBW.setCell (p := ⟨w.heap.size + 1 + 1 + 1, 0, none⟩) (by simp; omega) _⟩
      · rintro wz ⟨q1, q2⟩
        have z := q1.cell 0 (v := .bool false) rfl
        refine ⟨.bool false, ?_, by rw [HE], q2⟩
        simp [results, Try.results65, go_sem, z]
      · rintro D' hD' wz o ho hc ⟨q1, q2⟩
        have : D' = D2 ∨ D' = D := by simpa using hD'
        have hDw := hB.size
        exact ⟨q1.put (by omega) _, below_put q2 (by omega) _⟩
    case stop3 =>
      rintro D2 c' pre W3 hD2 hpre ⟨rfl, k1, k2, k3, k4⟩ hK2
      have HE : (apartB a b r && !amidB a b) = true := by
        have : amidB a b = false := by
          obtain ⟨post, hpost⟩ := hpre
          unfold amidB
          rw [← hpost, List.all_append, k1]
          rfl
        rw [hap, this]; rfl
      have HY := hide (And.intro HE (And.intro k2 (And.intro k3 (And.intro k4 hK2))))
      clear HE hK2 k1 k2 k3 k4 ys yc za zb zt hup hBm hKm hap hpre
      gi_wp2
      obtain ⟨HE, hBW, bt, hKb, hK2⟩ := HY.out
      refine leaves_marks (Ds := [D2, D]) (fun wz => Box wz (w.heap.size + 1 + 1 + 1) #[.bool true] 4 ∧ Below w.heap.size w wz) ?_ _
        ((Marks.cons ((Marks.nil _).cons hKb (by simp)) hK2 (by simp; omega))) ?_ ⟨bt, hBW⟩
      · rintro wz ⟨q1, q2⟩
        have z := q1.cell 0 (v := .bool true) rfl
        refine ⟨.bool true, ?_, by rw [HE], q2⟩
        simp [results, Try.results65, go_sem, z]
      · rintro D' hD' wz o ho hc ⟨q1, q2⟩
        have : D' = D2 ∨ D' = D := by simpa using hD'
        have hDw := hB.size
        exact ⟨q1.put (by omega) _, below_put q2 (by omega) _⟩
  case stop =>
    rintro D c' pre W hD hpre ⟨rfl, h1, h2, h3⟩ hK
    have HE : (apartB a b r && !amidB a b) = false := by
      have : apartB a b r = false := all_false hpre h1
      rw [this]; rfl
    have HC := hide HE
    have HK := hide hK
    have HX := hide (And.intro h2 h3)
    clear h1 h2 h3 hK HE xa xb xr xt xs xc hpre
    gi_wp2
    refine ⟨by simp, .inl ⟨_, _, rfl, run_takeDeferred HK.out, ?_⟩⟩
    have q := HX.out.2.put (D := D) (by omega) (.deferred none)
    have z := q.cell 0 (v := .bool false) rfl
    refine ⟨.bool false, ?_, by rw [HC.out], below_put HX.out.1 (by have := hB.size; omega) _⟩
    revert z
    generalize World.putObj _ D _ = WF
    intro z
    simp [results, Try.results65, go_sem, z]

theorem clear_any (a b : Ar) (r : Int) (w : World) : Gives Try.prog 65 #[.agg #[.int .i64 a.1, .int .i64 a.2.1, .int .i64 a.2.2.1, .int .i64 a.2.2.2], .agg #[.int .i64 b.1, .int .i64 b.2.1, .int .i64 b.2.2.1, .int .i64 b.2.2.2], .int .i64 r] w (.bool (clearB a b r)) := by
  by_cases hr : rightB a b r = true
  · unfold clearB
    rw [hr]
    exact Calls.mono (callsIn_wide.1 (clear_in a b r hr w)) fun _ _ ⟨he, hb⟩ => ⟨he, Up.of_below hb⟩
  · have hr' : rightB a b r = false := Bool.eq_false_iff.2 hr
    have : clearB a b r = false := by unfold clearB; rw [hr']; rfl
    rw [this]
    refine Calls.mono (callsIn_wide.1 (?_ : CallsIn Fence.wide 0 Try.prog 65 #[.agg #[.int .i64 a.1, .int .i64 a.2.1, .int .i64 a.2.2.1, .int .i64 a.2.2.2], .agg #[.int .i64 b.1, .int .i64 b.2.1, .int .i64 b.2.2.1, .int .i64 b.2.2.2], .int .i64 r] w fun e w' => e = .returned (.bool false) ∧ Below w.heap.size w w')) fun _ _ ⟨he, hb⟩ => ⟨he, Up.of_below hb⟩
    clear hr this
    (refine callsIn_of_wp_marks Try.func65 rfl trivial ?_ rfl; simp only [Try.ntmps65, List.size_toArray, List.length_cons, List.length_nil, Nat.reduceAdd, Nat.reduceSub, Array.replicate_succ, Array.replicate_zero, List.push_toArray, List.append_toArray, List.nil_append, List.cons_append])
    gi_wp2_with (refine ⟨trivial, rfl, ?_⟩; gi_at_call 103; refine (callsIn_wide.2 (right_any _ _ _ _)).mono ?_; rintro _ _ ⟨rfl, px, rfl⟩)
    refine ⟨.bool false, ?_, rfl, Up.below (by repeat (first | with_reducible exact Up.refl _ | apply Up.ext | apply Up.alloc | apply Up.drew | (refine Up.setCell ?_ (by simp; try omega) _)))⟩
    simp [results, Try.results65, go_sem]
end Go.Proofs.Ytfpdnmfklmgmfaa
