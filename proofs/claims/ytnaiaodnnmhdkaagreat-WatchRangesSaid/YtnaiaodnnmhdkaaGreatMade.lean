/- Drifts, spans, areas made of numbers; a sky made of numbers, in a world in which the ring has been asked. Conditions: how often the ring was asked. -/
import Derived.Test.YtnaiaodnnmhdkaaGreatSkyOf
namespace Go.Proofs.YtnaiaodnnmhdkaaGreat
set_option linter.unusedVariables false
set_option linter.unusedSimpArgs false
open Go.RowKit

theorem skyof_at {w : World} {sl : Value} (hN : Nums w sl) {B : Nat} (hB : w.heap.size ≤ B) {t : Int} {W W1 : World} (hu : Up w W) (hb : Box W B #[sl, .int .i64 t] 146) {n : Int} (hW : RingAt W B n W1) (hn : n + 60 ≤ 100000) :
    Calls Tryz.prog 81 #[.pointer (some ⟨B, 0, none⟩)] W1 fun e W' => ∃ (v : Value) (s : SkyD), e = .returned v ∧ SkyIn (fun b => W1.heap.size ≤ b) W' v s ∧ SmallSky s ∧ RingAt W B (n + 60) W' ∧ W1.grownBy W' (some B) := by
  obtain ⟨t1, h0, h1, hbW⟩ := hW.box hb
  refine (skyof_any hN hB t1 W1 (hW.up hu hB) hbW h0 (by omega)).mono ?_
  rintro e W' ⟨v, s, t', p', he, h2, h3, rfl, hs, hm⟩
  exact ⟨v, s, he, hs, hm, hW.called hb.lt h2 (by omega) p', grown_up (grown_set (grown_refl _ _) _ _) ((Up.refl _).ext _)⟩

theorem skyof_atx {w : World} {sl : Value} (hN : Nums w sl) {B : Nat} (hB : w.heap.size ≤ B) {t : Int} {W W1 : World} (hu : Up w W) (hb : Box W B #[sl, .int .i64 t] 146) {n : Int} (hW : RingAt W B n W1) (hn : n + 60 ≤ 100000) :
    Calls Tryz.prog 81 #[.pointer (some ⟨B, 0, none⟩)] W1 fun e W' => ∃ (v : Value) (s : SkyD), e = .returned v ∧ SkyX (fun b => W1.heap.size ≤ b) W' v s ∧ SmallSky s ∧ RingAt W B (n + 60) W' ∧ W1.grownBy W' (some B) := by
  obtain ⟨t1, h0, h1, hbW⟩ := hW.box hb
  refine (skyof_anyx hN hB t1 W1 (hW.up hu hB) hbW h0 (by omega)).mono ?_
  rintro e W' ⟨v, s, t', p', he, h2, h3, rfl, hs, hm⟩
  exact ⟨v, s, he, hs, hm, hW.called hb.lt h2 (by omega) p', grown_up (grown_set (grown_refl _ _) _ _) ((Up.refl _).ext _)⟩

/-- at a call: the world at hand under a new name, with what is kept of it -/
theorem forgetC {P : Program} {f : FuncId} {args : Array Value} {w : World} {R : Ending → World → Prop} (S : World → Prop) (hS : S w) (h : ∀ w', S w' → Calls P f args w' R) : Calls P f args w R := h w hS

/-- the world of a sky -/
@[go_sem] theorem field_world (a b c d : Value) (w : World) : (Instr.field 28 (.agg #[a, b, c, d]) 0).run Tryz.prog w = .ok (.agg #[a, b]) w := by kernel_rfl

def RDrift (v : Value) : Prop := ∃ l1 l2 h1 h2 g : Int, (0 ≤ l1 ∧ l1 ≤ l2 ∧ l2 ≤ 1000) ∧ (-1000 ≤ h1 ∧ h1 ≤ h2 ∧ h2 ≤ 1000) ∧ (0 ≤ g ∧ g ≤ 3) ∧ v = .agg #[.int .i64 (l1), .int .i64 (l2), .int .i64 (h1), .int .i64 (h2), .int .i64 (g)]
theorem ring_at_out {W : World} {B : Nat} {n t : Int} {k : Int} {R : Value → Prop} {v : Value} {W' : World} (h : RingAt W B n W') (hn : n ≤ t + k) (hR : R v) : RPost W B t k R (.returned v) W' :=
  let ⟨t', p, h0, h1, hW⟩ := h; ⟨v, t', p, rfl, hR, h0, by omega, hW⟩

def RSub (a b : Int) (v : Value) : Prop := ∃ x y : Int, a ≤ x ∧ x ≤ y ∧ y ≤ b ∧ v = .agg #[.int .i64 x, .int .i64 y]
def RSubA (a b c d : Int) (v : Value) : Prop := ∃ x y u v' : Int, (a ≤ x ∧ x ≤ y ∧ y ≤ b) ∧ (c ≤ u ∧ u ≤ v' ∧ v' ≤ d) ∧ v = .agg #[.int .i64 (x), .int .i64 (y), .int .i64 (u), .int .i64 (v')]
def RSubD (l1 l2 h1 h2 g : Int) (v : Value) : Prop := ∃ a b c d e : Int, (l1 ≤ a ∧ a ≤ b ∧ b ≤ l2) ∧ (h1 ≤ c ∧ c ≤ d ∧ d ≤ h2) ∧ (0 ≤ e ∧ e ≤ g) ∧ v = .agg #[.int .i64 (a), .int .i64 (b), .int .i64 (c), .int .i64 (d), .int .i64 (e)]
end Go.Proofs.YtnaiaodnnmhdkaaGreat
