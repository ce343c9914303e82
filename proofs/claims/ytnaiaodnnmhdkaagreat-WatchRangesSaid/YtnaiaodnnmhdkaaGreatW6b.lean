/- The sky, the offers of the chapter's examples, and the examples that each law of layer 6 asks. No conditions. -/
import Derived.Test.YtnaiaodnnmhdkaaGreatWatchK
import Derived.Test.YtnaiaodnnmhdkaaGreatWatchM
namespace Go.Proofs.YtnaiaodnnmhdkaaGreat
set_option linter.unusedVariables false
set_option linter.unusedSimpArgs false
open Go.RowKit Go.Shelf

def shownS : SkyD := ⟨[⟨0, 0, [(0, 0)]⟩], 0, [(1, 0, 0)], [(1, 0, 0)]⟩
def radarO : OffD := ⟨2, 1, 0, 0, 0, 0, 2, 100, 0, 3, true⟩
def scopeO : OffD := ⟨1, 1, 1, 0, 1, 0, 1000, 1000, 500000, 1, false⟩

theorem Vecs.ofB {K : Nat → Prop} {w : World} {B n : Nat} {T : TypeId} {C : Array Value} {l : List (Int × Int)} (hb : Box w B C T) (hK : K B) (hn : n = l.length) (hm : l.length ≤ 1000000)
    (hC : ∀ (i : Nat) (p : Int × Int), l[i]? = some p → C[i * 2]? = some (.int .i64 p.1) ∧ C[i * 2 + 1]? = some (.int .i64 p.2) ∧ I64 p.1 ∧ I64 p.2) (c : Nat) : Vecs K w (.slice (some ⟨B, 0, none⟩) n c) l := by
  subst hn
  refine ⟨_, _, rfl, by omega, fun _ => ⟨B, 0, rfl, hK, hb.lt, fun i x hx => ?_⟩⟩
  obtain ⟨h0, h1, h2, h3⟩ := hC i x hx
  refine ⟨_, ⟨rfl, h2, h3⟩, rfl, fun j u hu => ?_⟩
  match j, hu with
  | 0, hu => cases hu; exact hb.cell _ (by simpa using h0)
  | 1, hu => cases hu; exact hb.cell _ (by simpa using h1)
theorem Tris.ofB {K : Nat → Prop} {w : World} {B n : Nat} {T : TypeId} {C : Array Value} {l : List (Int × Int × Int)} (hb : Box w B C T) (hK : K B) (hn : n = l.length) (hm : l.length ≤ 1000000)
    (hC : ∀ (i : Nat) (p : Int × Int × Int), l[i]? = some p → C[i * 3]? = some (.int .i64 p.1) ∧ C[i * 3 + 1]? = some (.int .i64 p.2.1) ∧ C[i * 3 + 2]? = some (.int .i64 p.2.2) ∧ I64 p.1 ∧ I64 p.2.1 ∧ I64 p.2.2) (c : Nat) : Tris K w (.slice (some ⟨B, 0, none⟩) n c) l := by
  subst hn
  refine ⟨_, _, rfl, by omega, fun _ => ⟨B, 0, rfl, hK, hb.lt, fun i x hx => ?_⟩⟩
  obtain ⟨h0, h1, h2, h3⟩ := hC i x hx
  refine ⟨_, ⟨rfl, h3⟩, rfl, fun j u hu => ?_⟩
  match j, hu with
  | 0, hu => cases hu; exact hb.cell _ (by simpa using h0)
  | 1, hu => cases hu; exact hb.cell _ (by simpa using h1)
  | 2, hu => cases hu; exact hb.cell _ (by simpa using h2)
theorem Bods.ofB {K : Nat → Prop} {w : World} {B n : Nat} {T : TypeId} {C : Array Value} {l : List Bod} (hb : Box w B C T) (hK : K B) (hn : n = l.length) (hm : l.length ≤ 1000000)
    (hC : ∀ (i : Nat) (p : Bod), l[i]? = some p → ∃ tv, C[i * 3]? = some (.int .i64 p.mu) ∧ C[i * 3 + 1]? = some (.int .i64 p.radius) ∧ C[i * 3 + 2]? = some tv ∧ I64 p.mu ∧ I64 p.radius ∧ Vecs K w tv p.track) (c : Nat) : Bods K w (.slice (some ⟨B, 0, none⟩) n c) l := by
  subst hn
  refine ⟨_, _, rfl, by omega, fun _ => ⟨B, 0, rfl, hK, hb.lt, fun i x hx => ?_⟩⟩
  obtain ⟨tv, h0, h1, h2, h3, h4, h5⟩ := hC i x hx
  refine ⟨_, ⟨tv, rfl, h3, h4, h5⟩, rfl, fun j u hu => ?_⟩
  match j, hu with
  | 0, hu => cases hu; exact hb.cell _ (by simpa using h0)
  | 1, hu => cases hu; exact hb.cell _ (by simpa using h1)
  | 2, hu => cases hu; exact hb.cell _ (by simpa using h2)

theorem shown6_any (w : World) : Calls Tryz.prog 43 #[] w fun e W => ∃ (a : Option Addr) (n c : Nat) (sa : Option Addr) (sn sc : Nat) (ca : Option Addr) (cn cc : Nat) (p : Ext),
    e = .returned (.agg #[.slice a n c, .int .i64 0, .slice sa sn sc, .slice ca cn cc]) ∧ SkyL (fun b => w.heap.size ≤ b) W a n c sa sn sc ca cn cc shownS ∧ W = ext w p := by
  go_enter Tryz.func43, Tryz.ntmps43
  go_wp2
  refine forgetW (fun W => Up w W ∧ Box W w.heap.size #[.slice (some ⟨w.heap.size + 1 + 1, 0, none⟩) 1 1, .int .i64 0, .slice (some ⟨w.heap.size + 1 + 1 + 1, 0, none⟩) 1 1, .slice (some ⟨w.heap.size + 1 + 1 + 1 + 1, 0, none⟩) 1 1] 28 ∧ Box W (w.heap.size + 1) #[.int .i64 (0), .int .i64 (0)] 30 ∧
    Box W (w.heap.size + 1 + 1) #[.int .i64 0, .int .i64 0, .slice (some ⟨w.heap.size + 1, 0, none⟩) 1 1] 153 ∧ Box W (w.heap.size + 1 + 1 + 1) #[.int .i64 (1), .int .i64 (0), .int .i64 (0)] 116 ∧ Box W (w.heap.size + 1 + 1 + 1 + 1) #[.int .i64 (1), .int .i64 (0), .int .i64 (0)] 120) ⟨(by repeat (first | with_reducible exact Up.refl _ | with_reducible apply Up.plus | apply Up.ext | apply Up.alloc | apply Up.drew | (refine Up.setCell ?_ (by simp; try omega) _))), (by repeat (first | exact Box.mk rfl | (refine Box.mk ?_; simp; done) | apply Box.ext | apply Box.drew | apply Box.alloc | apply Box.two1 | (refine Box.other ?_ (by omega) _ _))), (by repeat (first | exact Box.mk rfl | (refine Box.mk ?_; simp; done) | apply Box.ext | apply Box.drew | apply Box.alloc | apply Box.two1 | (refine Box.other ?_ (by omega) _ _))), (by repeat (first | exact Box.mk rfl | (refine Box.mk ?_; simp; done) | apply Box.ext | apply Box.drew | apply Box.alloc | apply Box.two1 | (refine Box.other ?_ (by omega) _ _))), (by repeat (first | exact Box.mk rfl | (refine Box.mk ?_; simp; done) | apply Box.ext | apply Box.drew | apply Box.alloc | apply Box.two1 | (refine Box.other ?_ (by omega) _ _))), (by repeat (first | exact Box.mk rfl | (refine Box.mk ?_; simp; done) | apply Box.ext | apply Box.drew | apply Box.alloc | apply Box.two1 | (refine Box.other ?_ (by omega) _ _)))⟩ ?_
  rintro W ⟨⟨p, hp⟩, b0, b1, b2, b3, b4⟩
  have c0 := b0.cell 0 rfl
  have c1 := b0.cell 1 rfl
  have c2 := b0.cell 2 rfl
  have c3 := b0.cell 3 rfl
  refine bodyPost_ret (v := .agg #[.slice (some ⟨w.heap.size + 1 + 1, 0, none⟩) 1 1, .int .i64 0, .slice (some ⟨w.heap.size + 1 + 1 + 1, 0, none⟩) 1 1, .slice (some ⟨w.heap.size + 1 + 1 + 1 + 1, 0, none⟩) 1 1]) (by simp [results, Tryz.results43, go_sem, c0, c1, c2, c3]) rfl ⟨_, _, _, _, _, _, _, _, _, p, rfl, ?_, hp⟩
  have i0 : I64 0 := ⟨by decide, by decide⟩
  have i1 : I64 1 := ⟨by decide, by decide⟩
  have v1 : Vecs (fun b => w.heap.size ≤ b) W (.slice (some ⟨w.heap.size + 1, 0, none⟩) 1 1) [(0, 0)] := Vecs.ofB (K := fun b => w.heap.size ≤ b) (l := [(0, 0)]) b1 (by show _ ≤ _; omega) rfl (by decide) (fun i q hq => by
    match i, hq with
    | 0, hq => cases hq; exact ⟨rfl, rfl, i0, i0⟩) 1
  exact ⟨Bods.ofB (K := fun b => w.heap.size ≤ b) (l := [⟨0, 0, [(0, 0)]⟩]) b2 (by show _ ≤ _; omega) rfl (by decide) (fun i q hq => by
      match i, hq with
      | 0, hq => cases hq; exact ⟨_, rfl, rfl, rfl, i0, i0, v1⟩) 1, i0,
    Tris.ofB (K := fun b => w.heap.size ≤ b) (l := [(1, 0, 0)]) b3 (by show _ ≤ _; omega) rfl (by decide) (fun i q hq => by
      match i, hq with
      | 0, hq => cases hq; exact ⟨rfl, rfl, rfl, i1, i0, i0⟩) 1,
    Tris.ofB (K := fun b => w.heap.size ≤ b) (l := [(1, 0, 0)]) b4 (by show _ ≤ _; omega) rfl (by decide) (fun i q hq => by
      match i, hq with
      | 0, hq => cases hq; exact ⟨rfl, rfl, rfl, i1, i0, i0⟩) 1⟩
theorem radar6_any (w : World) : Gives Tryz.prog 44 #[] w (.agg (offA radarO)) := by
  (unfold Gives; go_enter Tryz.func44, Tryz.ntmps44)
  go_wp2
  all_goals (refine bodyPost_give (by repeat (first | with_reducible exact Up.refl _ | with_reducible apply Up.plus | apply Up.ext | apply Up.alloc | apply Up.drew | (refine Up.setCell ?_ (by simp; try omega) _))) rfl ⟨_, (by simp [results, Tryz.results44, go_sem]; rfl), ?_⟩)
  all_goals rfl
theorem scope6_any (w : World) : Gives Tryz.prog 45 #[] w (.agg (offA scopeO)) := by
  (unfold Gives; go_enter Tryz.func45, Tryz.ntmps45)
  go_wp2
  all_goals (refine bodyPost_give (by repeat (first | with_reducible exact Up.refl _ | with_reducible apply Up.plus | apply Up.ext | apply Up.alloc | apply Up.drew | (refine Up.setCell ?_ (by simp; try omega) _))) rfl ⟨_, (by simp [results, Tryz.results45, go_sem]; rfl), ?_⟩)
  all_goals rfl
theorem awake6_view : viewV shownS scopeO (100, 200, 10, 20) = ((true, true, 49000, 201000), 0) := by decide +kernel
theorem awake6_reads : readsV shownS radarO (60, 80) = ((98, 102), true) := by decide +kernel
set_option maxRecDepth 100000 in
set_option maxHeartbeats 2000000 in
theorem awake6_any (w : World) : Gives Tryz.prog 13 #[] w (.bool true) := by
  have H1 : ∀ (K : Nat → Prop) (W0 W : World) (a : Option Addr) (n c : Nat) (sa : Option Addr) (sn sc : Nat) (ca : Option Addr) (cn cc : Nat), SkyL K W0 a n c sa sn sc ca cn cc shownS → Up W0 W →
      Gives Tryz.prog 22 #[.agg #[.slice a n c, .int .i64 0, .slice sa sn sc, .slice ca cn cc], .agg (offA scopeO), .agg #[.int .i64 (100), .int .i64 (200), .int .i64 (10), .int .i64 (20)]] W (.tuple #[.agg #[.bool true, .bool true, .int .i64 49000, .int .i64 201000], .int .i64 0]) := fun K W0 W a n c sa sn sc ca cn cc h hu => by
    have := wView_any (h.up hu) scopeO (100, 200, 10, 20)
    rw [awake6_view] at this
    exact this
  have H2 : ∀ (K : Nat → Prop) (W0 W : World) (a : Option Addr) (n c : Nat) (sa : Option Addr) (sn sc : Nat) (ca : Option Addr) (cn cc : Nat), SkyL K W0 a n c sa sn sc ca cn cc shownS → Up W0 W →
      Gives Tryz.prog 14 #[.agg #[.slice a n c, .int .i64 0, .slice sa sn sc, .slice ca cn cc], .agg (offA radarO), .agg #[.int .i64 (60), .int .i64 (80)]] W (.tuple #[.agg #[.int .i64 (98), .int .i64 (102)], .bool true]) := fun K W0 W a n c sa sn sc ca cn cc h hu => by
    have := wReads_any (h.up hu) radarO (60, 80)
    rw [awake6_reads] at this
    exact this
  have K1 := hide H1
  have K2 := hide H2
  clear H1 H2
  (unfold Gives; go_enter Tryz.func13, Tryz.ntmps13)
  go_wp2_with (first | (go_at_call 43; refine (shown6_any _).mono ?_; rintro _ _ ⟨a, n, c, sa, sn, sc, ca, cn, cc, px, rfl, hb, rfl⟩) | (go_at_call 45; refine (scope6_any _).mono ?_; intro _) | (go_at_call 44; refine (radar6_any _).mono ?_; intro _) | (go_at_call 46; refine (xarea6_any _ _ _ _ _).mono ?_; intro _) | (go_at_call 22; refine (K1.out _ _ _ _ _ _ _ _ _ _ _ _ (by assumption) (by repeat (first | with_reducible exact Up.refl _ | with_reducible apply Up.plus | apply Up.ext | apply Up.alloc | apply Up.drew | (refine Up.setCell ?_ (by simp; try omega) _)))).mono ?_; intro _) | (go_at_call 14; refine (K2.out _ _ _ _ _ _ _ _ _ _ _ _ (by assumption) (by repeat (first | with_reducible exact Up.refl _ | with_reducible apply Up.plus | apply Up.ext | apply Up.alloc | apply Up.drew | (refine Up.setCell ?_ (by simp; try omega) _)))).mono ?_; intro _))
  go_ret
  exact ⟨rfl, (by repeat (first | with_reducible exact Up.refl _ | with_reducible apply Up.plus | apply Up.ext | apply Up.alloc | apply Up.drew | (refine Up.setCell ?_ (by simp; try omega) _)))⟩
end Go.Proofs.YtnaiaodnnmhdkaaGreat
