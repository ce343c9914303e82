/- The four pairs of ends of two spans: what pairs hands back, and what ranging over it gives. No conditions. -/
import Derived.Test.YtbcgdhldkanecaaSeq
import Derived.OwnWalkIn
import Derived.TacticsInMore
import Derived.LoopNIn
import Derived.LoopIn
import Derived.Shelf.Abstract
namespace Go.Proofs.Ytbcgdhldkanecaa
open Go.RowKit Go.Shelf

attribute [local go_sem] Oper.semAt_some

theorem pairs_any (a b c d : Int) (w : World) : Calls Try.prog 102 #[.agg #[.int .i64 a, .int .i64 b], .agg #[.int .i64 c, .int .i64 d]] w
    fun e w' => e = .returned (.func (.func 107) #[] #[.pointer (some ⟨w.heap.size + 1 + 1, 0, none⟩)]) ∧
      w' = ((w.alloc (.cells #[.int .i64 a, .int .i64 b] 36)).alloc (.cells #[.int .i64 c, .int .i64 d] 36)).alloc (.cells #[.int .i64 a, .int .i64 b, .int .i64 c, .int .i64 d] 156) := by
  go_enter Try.func102, Try.ntmps102
  go_wp2
  go_ret
  exact ⟨rfl, rfl⟩

/-- block B of cells is left as it lies -/
def KeepsBlock (B : Nat) (W W' : World) : Prop := W'.heap[B]? = W.heap[B]?
theorem KeepsBlock.trans {B : Nat} {X Y Z : World} (h : KeepsBlock B X Y) (k : KeepsBlock B Y Z) : KeepsBlock B X Z := Eq.trans k h

theorem KeepsBlock.cell {B : Nat} {W W' : World} (h : KeepsBlock B W W') (o : Nat) : W'.cell? ⟨B, o, none⟩ = W.cell? ⟨B, o, none⟩ := World.cell?_of_block (a := ⟨B, o, none⟩) h

def four (a b c d : Int) : List (Int × Int) := [(a, c), (a, d), (b, c), (b, d)]
def at2 (a b : Int) (k : Nat) : Int := if k = 0 then a else b

theorem four_step (a b c d : Int) (k j : Nat) (hk : k < 2) (hj : j < 2) : (four a b c d).take (2 * k + j) ++ [(at2 a b k, at2 c d j)] = (four a b c d).take (2 * k + (j + 1)) := by
  have h1 : k = 0 ∨ k = 1 := by omega
  have h2 : j = 0 ∨ j = 1 := by omega
  rcases h1 with rfl | rfl <;> rcases h2 with rfl | rfl <;> rfl
theorem four_next (a b c d : Int) (k j : Nat) (hk : k < 2) (hj : j < 2) : (four a b c d).take (2 * k + j) ++ [(at2 a b k, at2 c d j)] <+: four a b c d := by
  rw [four_step a b c d k j hk hj]; exact List.take_prefix _ _
theorem index2 (a b : Int) (k : Nat) (hk : k < 2) (w : World) : (Instr.index 128 (.agg #[.int .i64 a, .int .i64 b]) (.int .i64 (k : Int))).run Try.prog w = .ok (.int .i64 (at2 a b k)) w := by
  have h1 : k = 0 ∨ k = 1 := by omega
  have i0 : ∀ w, (Instr.index 128 (.agg #[.int .i64 a, .int .i64 b]) (.int .i64 0)).run Try.prog w = .ok (.int .i64 a) w := fun _ => by kernel_rfl
  have i1 : ∀ w, (Instr.index 128 (.agg #[.int .i64 a, .int .i64 b]) (.int .i64 1)).run Try.prog w = .ok (.int .i64 b) w := fun _ => by kernel_rfl
  rcases h1 with rfl | rfl
  · exact i0 w
  · exact i1 w

set_option maxRecDepth 100000 in
set_option maxHeartbeats 2000000 in
theorem pairs1_seq (Be : Nat) (a b c d : Int) (w : World) (hB : Be < w.heap.size) (h0 : w.cell? ⟨Be, 0, none⟩ = some (.int .i64 a)) (h1 : w.cell? ⟨Be, 1, none⟩ = some (.int .i64 b)) (h2 : w.cell? ⟨Be, 2, none⟩ = some (.int .i64 c)) (h3 : w.cell? ⟨Be, 3, none⟩ = some (.int .i64 d)) :
    SeqN Fence.wide Try.prog 107 #[.pointer (some ⟨Be, 0, none⟩)] (fun x : Int × Int => #[.int .i64 x.1, .int .i64 x.2]) (KeepsBlock Be) (four a b c d) w := by
  intro m l J Jx W hl hW hJ hJx hY hJ0
  have hk0 : KeepsBlock Be w W := hW.block Be hB
  have cells : ∀ W', KeepsBlock Be w W' → W'.cell? ⟨Be, 0, none⟩ = some (.int .i64 a) ∧ W'.cell? ⟨Be, 1, none⟩ = some (.int .i64 b) ∧ W'.cell? ⟨Be, 2, none⟩ = some (.int .i64 c) ∧ W'.cell? ⟨Be, 3, none⟩ = some (.int .i64 d) := fun W' h =>
    ⟨(h.cell 0).trans h0, (h.cell 1).trans h1, (h.cell 2).trans h2, (h.cell 3).trans h3⟩
  obtain ⟨g0, g1, g2, g3⟩ := cells W hk0
  have CE := hide cells
  clear cells
  (refine callsIn_of_wp Try.func107 rfl trivial ?_ rfl; simp only [Try.ntmps107, List.size_toArray, List.length_cons, List.length_nil, Nat.reduceAdd, Nat.reduceSub, Array.replicate_succ, Array.replicate_zero, List.push_toArray, List.append_toArray, List.nil_append, List.cons_append])
  gi_wp2
  gi_loopw [9] (fun i wr => ∃ k : Nat, k ≤ 2 ∧ i = .int .i64 k ∧ J ((four a b c d).take (2 * k)) wr ∧ KeepsBlock Be w wr) (fun i _ => 2 - (intOf i).toNat)
  case atStart => exact ⟨0, by omega, rfl, hJ0, hk0⟩
  case round =>
    obtain ⟨k, hk, rfl, hJk, hK⟩ := hrel
    obtain ⟨f0, f1, f2, f3⟩ := CE.out wr hK
    by_cases hlt : k < 2
    · have ix := index2 a b k hlt
      have hkb : decide ((k : Int) < 2) = true := by simp; omega
      gi_wp2
      obtain ⟨wo, hwo⟩ : ∃ wo : World, wo = wr := ⟨_, rfl⟩
      gi_loopw [14] (fun i wr => ∃ j : Nat, j ≤ 2 ∧ i = .int .i64 j ∧ J ((four a b c d).take (2 * k + j)) wr ∧ KeepsBlock Be w wr) (fun i _ => 2 - (intOf i).toNat)
      case atStart => exact ⟨0, by omega, rfl, hJk, hK⟩
      case round =>
        obtain ⟨j, hj, rfl, hJj, hKj⟩ := hrel
        by_cases hlj : j < 2
        · have iy := index2 c d j hlj
          have hjb : decide ((j : Int) < 2) = true := by simp; omega
          obtain ⟨fn, tmps, assign, body, hy, hR⟩ := hY (m - 1) _ (at2 a b k, at2 c d j) wr hJj (four_next a b c d k j hlt hlj)
          dsimp only at hy
          gi_wp2
          refine ⟨fun h => (by cases h), hR.mono ?_⟩
          rintro e W3 (⟨rfl, hJ3, _, hk3⟩ | ⟨rfl, hJx3, _⟩)
          · gi_wp2
            go_roundw
            case rel => exact ⟨j + 1, by omega, by go_num, by rw [← four_step a b c d k j hlt hlj]; exact hJ3, KeepsBlock.trans hKj hk3⟩
            case measure => simp [intOf]; omega
          · gi_wp2
            refine bodyPost_ret (results_none rfl _ _ _) rfl ?_
            rw [four_step a b c d k j hlt hlj] at hJx3
            exact ⟨⟨_, rfl⟩, .inr ⟨_, List.take_prefix _ _, hJx3⟩⟩
        · obtain rfl : j = 2 := by omega
          gi_wp2
          go_roundw
          case rel => exact ⟨k + 1, by omega, by go_num, by rw [show 2 * (k + 1) = 2 * k + 2 by omega]; exact hJj, hKj⟩
          case measure => simp [intOf]; omega
    · obtain rfl : k = 2 := by omega
      gi_wp2
      go_end0
      exact ⟨⟨_, rfl⟩, .inl hJk⟩
end Go.Proofs.Ytbcgdhldkanecaa
