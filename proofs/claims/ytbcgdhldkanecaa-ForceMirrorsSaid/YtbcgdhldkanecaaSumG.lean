/- What moves a body in a smaller area, with less light and heat, in plain Lean: all of it lies inside. No program. -/
import Derived.Test.YtbcgdhldkanecaaSumF
import Derived.Test.YtbcgdhldkanecaaPoint
namespace Go.Proofs.Ytbcgdhldkanecaa
open Go.RowKit

theorem fold_sub : ∀ (bs : List Bod) (f F : Bod → Ar) (o O : Ar), SubA o O → (∀ b ∈ bs, SubA (f b) (F b)) → SubA ((bs.map f).foldl plusA o) ((bs.map F).foldl plusA O)
  | [], _, _, _, _, h, _ => h
  | b :: bs, f, F, o, O, h, hb => by
    obtain ⟨h1, h2⟩ := List.forall_mem_cons.1 hb
    exact fold_sub bs f F _ _ (plus_sub h h1) h2
theorem gas_sub {g G : Int} (h0 : 0 ≤ g) (h : g ≤ G) : SubA (gasP g) (gasP G) := by
  unfold gasP SubA Sub arX arY
  simp only
  omega
theorem head_sub {s : SkyD} (hs : SmallSky s) {t : Int} {a A : Ar} (ha : OrdA 33554432 a) (hA : OrdA 33554432 A) (h : SubA a A) : SubA ((s.bodies.map (pullB t a)).headD (0, 0, 0, 0)) ((s.bodies.map (pullB t A)).headD (0, 0, 0, 0)) := by
  have h1 := hs.num.1
  have h2 := hs.bods
  match s.bodies, h1, h2 with
  | b :: bs, _, h2 => exact pullB_sub (h2 b (by simp)) ha hA h
theorem allS_sub {s : SkyD} (hs : SmallSky s) {t : Int} {a A : Ar} {l h L H : Sp} {g G : Int} (ha : OrdA 33554432 a) (hA : OrdA 33554432 A) (hsub : SubA a A) (hl : Ord 1000 l) (hL : Ord 1000 L) (hlL : Sub l L) (hh : Ord 1000 h) (hH : Ord 1000 H) (hhH : Sub h H) (g0 : 0 ≤ g) (gG : g ≤ G) :
    SubA (allS l h g (s.bodies.map (pullB t a))) (allS L H G (s.bodies.map (pullB t A))) := by
  have hp := head_sub hs (t := t) ha hA hsub
  exact fold_sub _ _ _ _ _ (plus_sub (plus_sub (gas_sub g0 gG) (light_sub hl (head_ord hs t ha) hL (head_ord hs t hA) hlL hp)) (heat_sub hh (head_ord hs t ha) hH (head_ord hs t hA) hhH hp)) (fun b hb => pullB_sub (hs.bods b hb) ha hA hsub)
theorem subA_in {a b : Ar} (h : SubA a b) : (inP (arX a) (arX b) && inP (arY a) (arY b)) = true := by
  have in1 : ∀ {x y : Sp}, Sub x y → inP x y = true := fun h => by obtain ⟨h0, h1, h2⟩ := h; simp [inP, h0, h1, h2]
  rw [in1 h.1, in1 h.2]; rfl
/-- all that ForceInside asks of numbers -/
theorem inside_facts {s : SkyD} (hsm : SmallSky s) {t : Int} (ht : 0 ≤ t ∧ t ≤ 1000000) {l h ll lh : Sp} {g lg : Int} (hl : 0 ≤ l.1 ∧ l.1 ≤ l.2 ∧ l.2 ≤ 1000) (hh : -1000 ≤ h.1 ∧ h.1 ≤ h.2 ∧ h.2 ≤ 1000) (hg : 0 ≤ g ∧ g ≤ 1000)
    (hll : l.1 ≤ ll.1 ∧ ll.1 ≤ ll.2 ∧ ll.2 ≤ l.2) (hlh : h.1 ≤ lh.1 ∧ lh.1 ≤ lh.2 ∧ lh.2 ≤ h.2) (hlg : 0 ≤ lg ∧ lg ≤ g) {a b : Ar} (ha : OrdA 33554432 a) (hba : SubA b a) :
    ∃ (OA OB LA LB HA HB : Ar) (PA PB : Nat → Ar), lightV s.bodies s.home l h g t a = (LA, 0) ∧ heatV s.bodies s.home l h g t a = (HA, 0) ∧ overV s.bodies s.home l h g t a = (OA, 0) ∧
      lightV s.bodies s.home ll lh lg t b = (LB, 0) ∧ heatV s.bodies s.home ll lh lg t b = (HB, 0) ∧ overV s.bodies s.home ll lh lg t b = (OB, 0) ∧
      (∀ i : Nat, i < s.bodies.length → oneV s.bodies s.home i t a = (PA i, 0)) ∧ (∀ i : Nat, i < s.bodies.length → oneV s.bodies s.home i t b = (PB i, 0)) ∧
      (inP (arX OB) (arX OA) && inP (arY OB) (arY OA)) = true ∧ (inP (arX LB) (arX LA) && inP (arY LB) (arY LA)) = true ∧ (inP (arX HB) (arX HA) && inP (arY HB) (arY HA)) = true ∧
      (∀ i : Nat, i < s.bodies.length → (inP (arX (PB i)) (arX (PA i)) && inP (arY (PB i)) (arY (PA i))) = true) := by
  have hb : OrdA 33554432 b := by
    obtain ⟨⟨a0, a1, a2⟩, a3, a4, a5⟩ := ha
    obtain ⟨⟨b0, b1, b2⟩, b3, b4, b5⟩ := hba
    exact ⟨⟨by omega, b1, by omega⟩, by omega, b4, by omega⟩
  have oL : Ord 1000 l := ⟨by omega, hl.2.1, hl.2.2⟩
  have oH : Ord 1000 h := ⟨by omega, hh.2.1, hh.2.2⟩
  have ol : Ord 1000 ll := ⟨by omega, by omega, by omega⟩
  have oh : Ord 1000 lh := ⟨by omega, by omega, by omega⟩
  have hp := head_sub hsm (t := t) hb ha hba
  exact ⟨_, _, _, _, _, _, fun i => pullB t a (s.bodies.getD i ⟨0, 0, []⟩), fun i => pullB t b (s.bodies.getD i ⟨0, 0, []⟩), light_small hsm hl hh hg ht ha, heat_small hsm hl hh hg ht ha, over_small hsm hl hh hg ht ha,
    light_small hsm (by omega) (by omega) (by omega) ht hb, heat_small hsm (by omega) (by omega) (by omega) ht hb, over_small hsm (by omega) (by omega) (by omega) ht hb,
    fun i hi => one_small hsm ht ha hi, fun i hi => one_small hsm ht hb hi,
    subA_in (allS_sub hsm hb ha hba ol oL hll oh oH hlh hlg.1 hlg.2), subA_in (light_sub ol (head_ord hsm t hb) oL (head_ord hsm t ha) hll hp), subA_in (heat_sub oh (head_ord hsm t hb) oH (head_ord hsm t ha) hlh hp),
    fun i hi => subA_in (pullB_sub (hsm.bods _ (by rw [List.getD_eq_getElem?_getD, List.getElem?_eq_getElem hi]; exact List.getElem_mem _)) hb ha hba)⟩

/-! the same calls, with the values given by equations -/
theorem over_at {K : Nat → Prop} {w : World} {a : Option Addr} {n c : Nat} {bs : List Bod} {home : Int} (hl : Bods K w (.slice a n c) bs) (hh : I64 home) {l1 l2 h1 h2 g t x0 x1 y0 y1 : Int} {v : Ar} (e : overV bs home (l1, l2) (h1, h2) g t (x0, x1, y0, y1) = (v, 0)) :
    Gives Try.prog 22 #[.agg #[.slice a n c, .int .i64 home], .agg #[.int .i64 (l1), .int .i64 (l2), .int .i64 (h1), .int .i64 (h2), .int .i64 (g)], .int .i64 t, .agg #[.int .i64 (x0), .int .i64 (x1), .int .i64 (y0), .int .i64 (y1)]] w (.tuple #[.agg #[.int .i64 v.1, .int .i64 v.2.1, .int .i64 v.2.2.1, .int .i64 v.2.2.2], .int .i64 0]) := by
  have := fOver_any hl hh (l1, l2) (h1, h2) g t (x0, x1, y0, y1)
  rw [e] at this
  exact this
theorem light_at {K : Nat → Prop} {w : World} {a : Option Addr} {n c : Nat} {bs : List Bod} {home : Int} (hl : Bods K w (.slice a n c) bs) (hh : I64 home) {l1 l2 h1 h2 g t x0 x1 y0 y1 : Int} {v : Ar} (e : lightV bs home (l1, l2) (h1, h2) g t (x0, x1, y0, y1) = (v, 0)) :
    Gives Try.prog 31 #[.agg #[.slice a n c, .int .i64 home], .agg #[.int .i64 (l1), .int .i64 (l2), .int .i64 (h1), .int .i64 (h2), .int .i64 (g)], .int .i64 t, .agg #[.int .i64 (x0), .int .i64 (x1), .int .i64 (y0), .int .i64 (y1)]] w (.tuple #[.agg #[.int .i64 v.1, .int .i64 v.2.1, .int .i64 v.2.2.1, .int .i64 v.2.2.2], .int .i64 0]) := by
  have := fLight_any hl hh (l1, l2) (h1, h2) g t (x0, x1, y0, y1)
  rw [e] at this
  exact this
theorem heat_at {K : Nat → Prop} {w : World} {a : Option Addr} {n c : Nat} {bs : List Bod} {home : Int} (hl : Bods K w (.slice a n c) bs) (hh : I64 home) {l1 l2 h1 h2 g t x0 x1 y0 y1 : Int} {v : Ar} (e : heatV bs home (l1, l2) (h1, h2) g t (x0, x1, y0, y1) = (v, 0)) :
    Gives Try.prog 32 #[.agg #[.slice a n c, .int .i64 home], .agg #[.int .i64 (l1), .int .i64 (l2), .int .i64 (h1), .int .i64 (h2), .int .i64 (g)], .int .i64 t, .agg #[.int .i64 (x0), .int .i64 (x1), .int .i64 (y0), .int .i64 (y1)]] w (.tuple #[.agg #[.int .i64 v.1, .int .i64 v.2.1, .int .i64 v.2.2.1, .int .i64 v.2.2.2], .int .i64 0]) := by
  have := fHeat_any hl hh (l1, l2) (h1, h2) g t (x0, x1, y0, y1)
  rw [e] at this
  exact this
theorem one_at {K : Nat → Prop} {w : World} {a : Option Addr} {n c : Nat} {bs : List Bod} {home : Int} (hl : Bods K w (.slice a n c) bs) (hh : I64 home) {i t x0 x1 y0 y1 : Int} {v : Ar} (e : oneV bs home i t (x0, x1, y0, y1) = (v, 0)) :
    Gives Try.prog 14 #[.agg #[.slice a n c, .int .i64 home], .int .i64 i, .int .i64 t, .agg #[.int .i64 (x0), .int .i64 (x1), .int .i64 (y0), .int .i64 (y1)]] w (.tuple #[.agg #[.int .i64 v.1, .int .i64 v.2.1, .int .i64 v.2.2.1, .int .i64 v.2.2.2], .int .i64 0]) := by
  have := fOne_any hl hh i t (x0, x1, y0, y1)
  rw [e] at this
  exact this
theorem inside_at {a b : Ar} (e : (inP (arX a) (arX b) && inP (arY a) (arY b)) = true) (w : World) : Gives Try.prog 16 #[.agg #[.int .i64 a.1, .int .i64 a.2.1, .int .i64 a.2.2.1, .int .i64 a.2.2.2], .agg #[.int .i64 b.1, .int .i64 b.2.1, .int .i64 b.2.2.1, .int .i64 b.2.2.2]] w (.bool true) := by
  have := xinsidea_any a b w
  rw [e] at this
  exact this
end Go.Proofs.Ytbcgdhldkanecaa
