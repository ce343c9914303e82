/- The world of the chapter's examples, and the examples that each law asks. No conditions. -/
import Derived.Test.YtbcgdhldkanecaaGreatForceI
namespace Go.Proofs.YtbcgdhldkanecaaGreat
set_option linter.unusedVariables false
set_option linter.unusedSimpArgs false
open Go.RowKit Go.Shelf

theorem Vecs.of {K : Nat → Prop} {w : World} {B n : Nat} {T : TypeId} {C : Array Value} {l : List (Int × Int)} (hb : Box w B C T) (hK : K B) (hn : n = l.length) (hm : l.length ≤ 1000000)
    (hC : ∀ (i : Nat) (p : Int × Int), l[i]? = some p → C[i * 2]? = some (.int .i64 p.1) ∧ C[i * 2 + 1]? = some (.int .i64 p.2) ∧ I64 p.1 ∧ I64 p.2) (c : Nat) : Vecs K w (.slice (some ⟨B, 0, none⟩) n c) l := by
  subst hn
  refine ⟨_, _, rfl, by omega, fun _ => ⟨B, 0, rfl, hK, hb.lt, fun i x hx => ?_⟩⟩
  obtain ⟨h0, h1, h2, h3⟩ := hC i x hx
  refine ⟨_, ⟨rfl, h2, h3⟩, rfl, fun j u hu => ?_⟩
  match j, hu with
  | 0, hu => cases hu; exact hb.cell _ (by simpa using h0)
  | 1, hu => cases hu; exact hb.cell _ (by simpa using h1)
theorem Bods.of {K : Nat → Prop} {w : World} {B n : Nat} {T : TypeId} {C : Array Value} {l : List Bod} (hb : Box w B C T) (hK : K B) (hn : n = l.length) (hm : l.length ≤ 1000000)
    (hC : ∀ (i : Nat) (p : Bod), l[i]? = some p → ∃ tv, C[i * 3]? = some (.int .i64 p.mu) ∧ C[i * 3 + 1]? = some (.int .i64 p.radius) ∧ C[i * 3 + 2]? = some tv ∧ I64 p.mu ∧ I64 p.radius ∧ Vecs K w tv p.track) (c : Nat) : Bods K w (.slice (some ⟨B, 0, none⟩) n c) l := by
  subst hn
  refine ⟨_, _, rfl, by omega, fun _ => ⟨B, 0, rfl, hK, hb.lt, fun i x hx => ?_⟩⟩
  obtain ⟨tv, h0, h1, h2, h3, h4, h5⟩ := hC i x hx
  refine ⟨_, ⟨tv, rfl, h3, h4, h5⟩, rfl, fun j u hu => ?_⟩
  match j, hu with
  | 0, hu => cases hu; exact hb.cell _ (by simpa using h0)
  | 1, hu => cases hu; exact hb.cell _ (by simpa using h1)
  | 2, hu => cases hu; exact hb.cell _ (by simpa using h2)

theorem xof_any (a b : Int) (w : World) : Gives Tryz.prog 69 #[.int .i64 a, .int .i64 b] w (.agg #[.int .i64 a, .int .i64 b]) := by
  (unfold Gives; go_enter Tryz.func69, Tryz.ntmps69)
  go_wp2
  all_goals (refine bodyPost_give (by repeat (first | with_reducible exact Up.refl _ | with_reducible apply Up.plus | apply Up.ext | apply Up.alloc | apply Up.drew | (refine Up.setCell ?_ (by simp; try omega) _))) rfl ⟨_, (by simp [results, Tryz.results69, go_sem]; rfl), ?_⟩)
  all_goals rfl
theorem xarea_any (a b c d : Int) (w : World) : Gives Tryz.prog 36 #[.int .i64 a, .int .i64 b, .int .i64 c, .int .i64 d] w (.agg #[.int .i64 (a), .int .i64 (b), .int .i64 (c), .int .i64 (d)]) := by
  (unfold Gives; go_enter Tryz.func36, Tryz.ntmps36)
  go_wp2_with (go_at_call 69; refine (xof_any _ _ _).mono ?_; intro _)
  all_goals (refine bodyPost_give (by repeat (first | with_reducible exact Up.refl _ | with_reducible apply Up.plus | apply Up.ext | apply Up.alloc | apply Up.drew | (refine Up.setCell ?_ (by simp; try omega) _))) rfl ⟨_, (by simp [results, Tryz.results36, go_sem]; rfl), ?_⟩)
  all_goals rfl
theorem xat_any (a b : Int) (w : World) : Gives Tryz.prog 35 #[.int .i64 a, .int .i64 b] w (.agg #[.int .i64 (a), .int .i64 (a), .int .i64 (b), .int .i64 (b)]) := by
  (unfold Gives; go_enter Tryz.func35, Tryz.ntmps35)
  go_wp2_with (go_at_call 69; refine (xof_any _ _ _).mono ?_; intro _)
  all_goals (refine bodyPost_give (by repeat (first | with_reducible exact Up.refl _ | with_reducible apply Up.plus | apply Up.ext | apply Up.alloc | apply Up.drew | (refine Up.setCell ?_ (by simp; try omega) _))) rfl ⟨_, (by simp [results, Tryz.results35, go_sem]; rfl), ?_⟩)
  all_goals rfl

def shownBs : List Bod := [⟨1000000, 10, [(0, 0)]⟩, ⟨10000, 2, [(100, 0), (0, 100)]⟩]
/-- a world that is handed back -/
def GivesW (f : FuncId) (args : Array Value) (w : World) (bs : List Bod) (home : Int) : Prop :=
  Calls Tryz.prog f args w fun e W => ∃ (a : Option Addr) (n c : Nat) (p : Ext), e = .returned (.agg #[.slice a n c, .int .i64 home]) ∧ Bods (fun b => w.heap.size ≤ b) W (.slice a n c) bs ∧ W = ext w p
theorem shown_any (w : World) : GivesW 34 #[] w shownBs 1 := by
  unfold GivesW
  go_enter Tryz.func34, Tryz.ntmps34
  go_wp2
  refine forgetW (fun W => Up w W ∧ Box W w.heap.size #[.slice (some ⟨w.heap.size + 1 + 1 + 1, 0, none⟩) 2 2, .int .i64 1] 24 ∧ Box W (w.heap.size + 1) #[.int .i64 (0), .int .i64 (0)] 55 ∧ Box W (w.heap.size + 1 + 1) #[.int .i64 (100), .int .i64 (0), .int .i64 (0), .int .i64 (100)] 55 ∧
    Box W (w.heap.size + 1 + 1 + 1) #[.int .i64 1000000, .int .i64 10, .slice (some ⟨w.heap.size + 1, 0, none⟩) 1 1, .int .i64 10000, .int .i64 2, .slice (some ⟨w.heap.size + 1 + 1, 0, none⟩) 2 2] 73) ⟨(by repeat (first | with_reducible exact Up.refl _ | with_reducible apply Up.plus | apply Up.ext | apply Up.alloc | apply Up.drew | (refine Up.setCell ?_ (by simp; try omega) _))), (by repeat (first | exact Box.mk rfl | (refine Box.mk ?_; simp; done) | apply Box.ext | apply Box.drew | apply Box.alloc | apply Box.two1 | (refine Box.other ?_ (by omega) _ _))), (by repeat (first | exact Box.mk rfl | (refine Box.mk ?_; simp; done) | apply Box.ext | apply Box.drew | apply Box.alloc | apply Box.two1 | (refine Box.other ?_ (by omega) _ _))), (by repeat (first | exact Box.mk rfl | (refine Box.mk ?_; simp; done) | apply Box.ext | apply Box.drew | apply Box.alloc | apply Box.two1 | (refine Box.other ?_ (by omega) _ _))), (by repeat (first | exact Box.mk rfl | (refine Box.mk ?_; simp; done) | apply Box.ext | apply Box.drew | apply Box.alloc | apply Box.two1 | (refine Box.other ?_ (by omega) _ _)))⟩ ?_
  rintro W ⟨⟨p, hp⟩, b0, b1, b2, b3⟩
  have c0 := b0.cell 0 rfl
  have c1 := b0.cell 1 rfl
  refine bodyPost_ret (v := .agg #[.slice (some ⟨w.heap.size + 1 + 1 + 1, 0, none⟩) 2 2, .int .i64 1]) (by simp [results, Tryz.results34, go_sem, c0, c1]) rfl ⟨_, _, _, p, rfl, ?_, hp⟩
  have v1 : Vecs (fun b => w.heap.size ≤ b) W (.slice (some ⟨w.heap.size + 1, 0, none⟩) 1 1) [(0, 0)] := Vecs.of (K := fun b => w.heap.size ≤ b) (l := [(0, 0)]) b1 (by show _ ≤ _; omega) rfl (by decide) (fun i q hq => by
    match i, hq with
    | 0, hq => cases hq; exact ⟨rfl, rfl, ⟨by decide, by decide⟩, by decide, by decide⟩) 1
  have v2 : Vecs (fun b => w.heap.size ≤ b) W (.slice (some ⟨w.heap.size + 1 + 1, 0, none⟩) 2 2) [(100, 0), (0, 100)] := Vecs.of (K := fun b => w.heap.size ≤ b) (l := [(100, 0), (0, 100)]) b2 (by show _ ≤ _; omega) rfl (by decide) (fun i q hq => by
    match i, hq with
    | 0, hq => cases hq; exact ⟨rfl, rfl, ⟨by decide, by decide⟩, by decide, by decide⟩
    | 1, hq => cases hq; exact ⟨rfl, rfl, ⟨by decide, by decide⟩, by decide, by decide⟩) 2
  exact Bods.of (K := fun b => w.heap.size ≤ b) (l := shownBs) b3 (by show _ ≤ _; omega) rfl (by decide) (fun i q hq => by
    match i, hq with
    | 0, hq => cases hq; exact ⟨_, rfl, rfl, rfl, ⟨by decide, by decide⟩, ⟨by decide, by decide⟩, v1⟩
    | 1, hq => cases hq; exact ⟨_, rfl, rfl, rfl, ⟨by decide, by decide⟩, ⟨by decide, by decide⟩, v2⟩) 2

theorem awake_one : oneV shownBs 1 0 0 (10, 10, 10, 10) = ((-3572, -3333, -3572, -3333), 0) := by decide +kernel
theorem awake_pull : overV shownBs 1 (0, 0) (0, 0) 0 1 (50, 50, 0, 0) = ((-401, -400, 0, 1), 0) := by decide +kernel
theorem i64_one : I64 1 := ⟨by decide, by decide⟩

set_option maxHeartbeats 2000000 in
theorem awake_any (w : World) : Gives Tryz.prog 8 #[] w (.bool true) := by
  have H1 : ∀ (W0 W : World) (a : Option Addr) (n c : Nat), Bods (fun b => w.heap.size ≤ b) W0 (.slice a n c) shownBs → Up W0 W → Gives Tryz.prog 15 #[.agg #[.slice a n c, .int .i64 1], .int .i64 0, .int .i64 0, .agg #[.int .i64 (10), .int .i64 (10), .int .i64 (10), .int .i64 (10)]] W (.tuple #[.agg #[.int .i64 (-3572), .int .i64 (-3333), .int .i64 (-3572), .int .i64 (-3333)], .int .i64 0])   := fun W0 W a n c hb hu => by
    have := fOne_any (hb.keeps (hu.keeps _)) i64_one 0 0 (10, 10, 10, 10)
    rw [awake_one] at this
    exact this
  have H2 : ∀ (W1 W0 W : World) (a : Option Addr) (n c : Nat), Bods (fun b => W1.heap.size ≤ b) W0 (.slice a n c) shownBs → Up W0 W → Gives Tryz.prog 24 #[.agg #[.slice a n c, .int .i64 1], .agg #[.int .i64 (0), .int .i64 (0), .int .i64 (0), .int .i64 (0), .int .i64 (0)], .int .i64 1, .agg #[.int .i64 (50), .int .i64 (0)]] W (.tuple #[.agg #[.int .i64 (-401), .int .i64 (-400), .int .i64 (0), .int .i64 (1)], .int .i64 0])   := fun W1 W0 W a n c hb hu => by
    have := fPull_any (hb.keeps (hu.keeps _)) i64_one (0, 0) (0, 0) 0 1 50 0
    rw [awake_pull] at this
    exact this
  have K1 := hide H1
  have K2 := hide H2
  clear H1 H2
  (unfold Gives; go_enter Tryz.func8, Tryz.ntmps8)
  go_wp2_with (first | (go_at_call 34; refine (shown_any _).mono ?_; rintro _ _ ⟨sa, sn, sc, px, rfl, hb, rfl⟩) | (go_at_call 35; refine (xat_any _ _ _).mono ?_; intro _) | (go_at_call 15; refine (K1.out _ _ _ _ _ (by assumption) (by repeat (first | with_reducible exact Up.refl _ | with_reducible apply Up.plus | apply Up.ext | apply Up.alloc | apply Up.drew | (refine Up.setCell ?_ (by simp; try omega) _)))).mono ?_; intro _) | (go_at_call 24; refine (K2.out _ _ _ _ _ _ (by assumption) (by repeat (first | with_reducible exact Up.refl _ | with_reducible apply Up.plus | apply Up.ext | apply Up.alloc | apply Up.drew | (refine Up.setCell ?_ (by simp; try omega) _)))).mono ?_; intro _))
  ((first | with_reducible refine wp_region_ext2 (by kernel_rfl) (by kernel_rfl) ?_ | refine wp_region_ext (by kernel_rfl) (by kernel_rfl) ?_); (repeat (go_big_quiet_step ((go_at_call 36; exact Gives.inRegion (xarea_any _ _ _ _ _))))); refine wpQuiet_nil ?_; intro _ hw'; obtain ⟨_, hw''⟩ := hw'; subst hw'')
  go_wp2
  go_ret
  exact ⟨rfl, (by repeat (first | with_reducible exact Up.refl _ | with_reducible apply Up.plus | apply Up.ext | apply Up.alloc | apply Up.drew | (refine Up.setCell ?_ (by simp; try omega) _)))⟩
end Go.Proofs.YtbcgdhldkanecaaGreat
