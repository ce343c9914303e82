/- The end of a region where several slices are made and assigned. No conditions but those typed. -/
import Derived.Test.YtbcgdhldkanecaaGreatFloatV
namespace Go.Proofs.YtbcgdhldkanecaaGreat
set_option linter.unusedVariables false
set_option linter.unusedSimpArgs false
open Go.RowKit
section
variable {P : Program} {ops : Array Oper} {B0 : Nat} {al : List Mk}
/-- an operation that builds a slice -/
theorem runs_slice {x : Mk} {a : Act} {o : Oper} {t : TypeId} {len : Nat} {parts : Array (Nat × Operand)} {cells : Array Value} (ho : ops[x.i]? = some o) (hd : o.dst = some x.d) (hg : o.guard.isNone = true) (hop : o.op = .buildSlice t len parts) (hx : x.n = len) (hl : 0 < len) (size : Nat) (zero : Value)
    (hu : P.underlying t = some (.slice x.T)) (hi : (P.info? x.T).map (fun i => (i.zero, i.size)) = some (some zero, size)) (hs : decide (0 < len * size ∧ len * size ≤ 2 ^ 24) = true)
    (hf : Instr.fill (fun i => some (i * size, size)) ((Array.range (len * size)).map (zero.cells[· % zero.cells.size]!)) (parts.map fun (i, y) => (i, a.eval y)).toList = some cells) : RunsTo P ops x a cells := by
  obtain ⟨ie, hie, he⟩ := Option.map_eq_some_iff.1 hi
  simp only [Prod.mk.injEq] at he
  obtain ⟨hz, rfl⟩ := he
  have hs' := of_decide_eq_true hs
  refine ⟨o, ho, hd, wanted_none hg, fun w => ?_⟩
  have := run_buildSlice w t x.T len (parts.map fun (i, y) => (i, a.eval y)) cells ie zero hu hie hz (by omega) (by omega) hf
  unfold execOp
  simp only [hop]
  obtain ⟨k, rfl⟩ : ∃ k, len = k + 1 := ⟨len - 1, by omega⟩
  rw [hx]
  simp only [valV, Sem.run_bind, this, Result.andThen_ok]
  rfl
theorem endV3 {G : Act → World → Prop} {a' : Act} {D' : World → Prop} {x1 x2 x3 y1 y2 y3 : Mk} (c1 c2 c3 : Array Value) (hal : al = [x1, x2, x3, y1, y2, y3])
    (hs : ((x1.src.isNone && y1.src == some x1.i) && (x2.src.isNone && y2.src == some x2.i) && (x3.src.isNone && y3.src == some x3.i)) = true) (hn : decide (al.map (·.i)).Nodup = true)
    (r1 : RunsTo P ops x1 a' c1) (r2 : RunsTo P ops x2 a' c2) (r3 : RunsTo P ops x3 a' c3)
    (h : ∀ g1 g2 g3 W, (B0 ≤ g1 ∧ B0 ≤ g2 ∧ B0 ≤ g3) → (g1 ≠ g2 ∧ g1 ≠ g3 ∧ g2 ≠ g3) → D' W → Box W g1 c1 x1.T → Box W g2 c2 x2.T → Box W g3 c3 x3.T →
      G ((((((a'.put (some x1.d) (valV x1.n g1)).put (some x2.d) (valV x2.n g2)).put (some x3.d) (valV x3.n g3)).put (some y1.d) (valV y1.n g1)).put (some y2.d) (valV y2.n g2)).put (some y3.d) (valV y3.n g3)) W) :
    ∀ σ W, (∀ x ∈ al, ∃ g, σ x.i = some g) → D' W → GoodV P ops al B0 σ a' W → G (appV al σ a') W := fun σ W hσ hW hG => by
  simp only [Bool.and_eq_true, Option.isNone_iff_eq_none, beq_iff_eq] at hs
  have hn' : (al.map (·.i)).Nodup := of_decide_eq_true hn
  have s1 := hs.1.1.1
  have t1 := hs.1.1.2
  have m1 : x1 ∈ al := by rw [hal]; simp
  have l1 : y1 ∈ al := by rw [hal]; simp
  obtain ⟨g1, e1⟩ := hσ x1 m1
  obtain ⟨k1, f1⟩ := hσ y1 l1
  have q1 := (hG y1 l1 k1 f1).2 _ t1
  rw [e1] at q1
  obtain rfl := Option.some.inj q1
  have b1 := hG.box m1 e1 s1 r1
  have d1 := ((hG x1 m1 _ e1).1 s1).2.2
  have s2 := hs.1.2.1
  have t2 := hs.1.2.2
  have m2 : x2 ∈ al := by rw [hal]; simp
  have l2 : y2 ∈ al := by rw [hal]; simp
  obtain ⟨g2, e2⟩ := hσ x2 m2
  obtain ⟨k2, f2⟩ := hσ y2 l2
  have q2 := (hG y2 l2 k2 f2).2 _ t2
  rw [e2] at q2
  obtain rfl := Option.some.inj q2
  have b2 := hG.box m2 e2 s2 r2
  have d2 := ((hG x2 m2 _ e2).1 s2).2.2
  have s3 := hs.2.1
  have t3 := hs.2.2
  have m3 : x3 ∈ al := by rw [hal]; simp
  have l3 : y3 ∈ al := by rw [hal]; simp
  obtain ⟨g3, e3⟩ := hσ x3 m3
  obtain ⟨k3, f3⟩ := hσ y3 l3
  have q3 := (hG y3 l3 k3 f3).2 _ t3
  rw [e3] at q3
  obtain rfl := Option.some.inj q3
  have b3 := hG.box m3 e3 s3 r3
  have d3 := ((hG x3 m3 _ e3).1 s3).2.2
  rw [hal] at hn'
  simp only [List.map_cons, List.map_nil, List.nodup_cons, List.mem_cons, not_or] at hn'
  have n12 : x1.i ≠ x2.i := fun e => by simp [e] at hn'
  have n13 : x1.i ≠ x3.i := fun e => by simp [e] at hn'
  have n23 : x2.i ≠ x3.i := fun e => by simp [e] at hn'
  have ea : appV al σ a' = ((((((a'.put (some x1.d) (valV x1.n g1)).put (some x2.d) (valV x2.n g2)).put (some x3.d) (valV x3.n g3)).put (some y1.d) (valV y1.n g1)).put (some y2.d) (valV y2.n g2)).put (some y3.d) (valV y3.n g3)) := by
    rw [hal]
    unfold appV putOneV
    simp only [List.foldl_cons, List.foldl_nil, e1, e2, e3, f1, f2, f3]
  rw [ea]
  exact h _ _ _ W ⟨b1.1, b2.1, b3.1⟩ ⟨d1 x2 m2 s2 _ e2 n12, d1 x3 m3 s3 _ e3 n13, d2 x3 m3 s3 _ e3 n23⟩ hW b1.2 b2.2 b3.2
theorem endV4 {G : Act → World → Prop} {a' : Act} {D' : World → Prop} {x1 x2 x3 x4 y1 y2 y3 y4 : Mk} (c1 c2 c3 c4 : Array Value) (hal : al = [x1, x2, x3, x4, y1, y2, y3, y4])
    (hs : ((x1.src.isNone && y1.src == some x1.i) && (x2.src.isNone && y2.src == some x2.i) && (x3.src.isNone && y3.src == some x3.i) && (x4.src.isNone && y4.src == some x4.i)) = true) (hn : decide (al.map (·.i)).Nodup = true)
    (r1 : RunsTo P ops x1 a' c1) (r2 : RunsTo P ops x2 a' c2) (r3 : RunsTo P ops x3 a' c3) (r4 : RunsTo P ops x4 a' c4)
    (h : ∀ g1 g2 g3 g4 W, (B0 ≤ g1 ∧ B0 ≤ g2 ∧ B0 ≤ g3 ∧ B0 ≤ g4) → (g1 ≠ g2 ∧ g1 ≠ g3 ∧ g1 ≠ g4 ∧ g2 ≠ g3 ∧ g2 ≠ g4 ∧ g3 ≠ g4) → D' W → Box W g1 c1 x1.T → Box W g2 c2 x2.T → Box W g3 c3 x3.T → Box W g4 c4 x4.T →
      G ((((((((a'.put (some x1.d) (valV x1.n g1)).put (some x2.d) (valV x2.n g2)).put (some x3.d) (valV x3.n g3)).put (some x4.d) (valV x4.n g4)).put (some y1.d) (valV y1.n g1)).put (some y2.d) (valV y2.n g2)).put (some y3.d) (valV y3.n g3)).put (some y4.d) (valV y4.n g4)) W) :
    ∀ σ W, (∀ x ∈ al, ∃ g, σ x.i = some g) → D' W → GoodV P ops al B0 σ a' W → G (appV al σ a') W := fun σ W hσ hW hG => by
  simp only [Bool.and_eq_true, Option.isNone_iff_eq_none, beq_iff_eq] at hs
  have hn' : (al.map (·.i)).Nodup := of_decide_eq_true hn
  have s1 := hs.1.1.1.1
  have t1 := hs.1.1.1.2
  have m1 : x1 ∈ al := by rw [hal]; simp
  have l1 : y1 ∈ al := by rw [hal]; simp
  obtain ⟨g1, e1⟩ := hσ x1 m1
  obtain ⟨k1, f1⟩ := hσ y1 l1
  have q1 := (hG y1 l1 k1 f1).2 _ t1
  rw [e1] at q1
  obtain rfl := Option.some.inj q1
  have b1 := hG.box m1 e1 s1 r1
  have d1 := ((hG x1 m1 _ e1).1 s1).2.2
  have s2 := hs.1.1.2.1
  have t2 := hs.1.1.2.2
  have m2 : x2 ∈ al := by rw [hal]; simp
  have l2 : y2 ∈ al := by rw [hal]; simp
  obtain ⟨g2, e2⟩ := hσ x2 m2
  obtain ⟨k2, f2⟩ := hσ y2 l2
  have q2 := (hG y2 l2 k2 f2).2 _ t2
  rw [e2] at q2
  obtain rfl := Option.some.inj q2
  have b2 := hG.box m2 e2 s2 r2
  have d2 := ((hG x2 m2 _ e2).1 s2).2.2
  have s3 := hs.1.2.1
  have t3 := hs.1.2.2
  have m3 : x3 ∈ al := by rw [hal]; simp
  have l3 : y3 ∈ al := by rw [hal]; simp
  obtain ⟨g3, e3⟩ := hσ x3 m3
  obtain ⟨k3, f3⟩ := hσ y3 l3
  have q3 := (hG y3 l3 k3 f3).2 _ t3
  rw [e3] at q3
  obtain rfl := Option.some.inj q3
  have b3 := hG.box m3 e3 s3 r3
  have d3 := ((hG x3 m3 _ e3).1 s3).2.2
  have s4 := hs.2.1
  have t4 := hs.2.2
  have m4 : x4 ∈ al := by rw [hal]; simp
  have l4 : y4 ∈ al := by rw [hal]; simp
  obtain ⟨g4, e4⟩ := hσ x4 m4
  obtain ⟨k4, f4⟩ := hσ y4 l4
  have q4 := (hG y4 l4 k4 f4).2 _ t4
  rw [e4] at q4
  obtain rfl := Option.some.inj q4
  have b4 := hG.box m4 e4 s4 r4
  have d4 := ((hG x4 m4 _ e4).1 s4).2.2
  rw [hal] at hn'
  simp only [List.map_cons, List.map_nil, List.nodup_cons, List.mem_cons, not_or] at hn'
  have n12 : x1.i ≠ x2.i := fun e => by simp [e] at hn'
  have n13 : x1.i ≠ x3.i := fun e => by simp [e] at hn'
  have n14 : x1.i ≠ x4.i := fun e => by simp [e] at hn'
  have n23 : x2.i ≠ x3.i := fun e => by simp [e] at hn'
  have n24 : x2.i ≠ x4.i := fun e => by simp [e] at hn'
  have n34 : x3.i ≠ x4.i := fun e => by simp [e] at hn'
  have ea : appV al σ a' = ((((((((a'.put (some x1.d) (valV x1.n g1)).put (some x2.d) (valV x2.n g2)).put (some x3.d) (valV x3.n g3)).put (some x4.d) (valV x4.n g4)).put (some y1.d) (valV y1.n g1)).put (some y2.d) (valV y2.n g2)).put (some y3.d) (valV y3.n g3)).put (some y4.d) (valV y4.n g4)) := by
    rw [hal]
    unfold appV putOneV
    simp only [List.foldl_cons, List.foldl_nil, e1, e2, e3, e4, f1, f2, f3, f4]
  rw [ea]
  exact h _ _ _ _ W ⟨b1.1, b2.1, b3.1, b4.1⟩ ⟨d1 x2 m2 s2 _ e2 n12, d1 x3 m3 s3 _ e3 n13, d1 x4 m4 s4 _ e4 n14, d2 x3 m3 s3 _ e3 n23, d2 x4 m4 s4 _ e4 n24, d3 x4 m4 s4 _ e4 n34⟩ hW b1.2 b2.2 b3.2 b4.2
theorem endV5 {G : Act → World → Prop} {a' : Act} {D' : World → Prop} {x1 x2 x3 x4 x5 y1 y2 y3 y4 y5 : Mk} (c1 c2 c3 c4 c5 : Array Value) (hal : al = [x1, x2, x3, x4, x5, y1, y2, y3, y4, y5])
    (hs : ((x1.src.isNone && y1.src == some x1.i) && (x2.src.isNone && y2.src == some x2.i) && (x3.src.isNone && y3.src == some x3.i) && (x4.src.isNone && y4.src == some x4.i) && (x5.src.isNone && y5.src == some x5.i)) = true) (hn : decide (al.map (·.i)).Nodup = true)
    (r1 : RunsTo P ops x1 a' c1) (r2 : RunsTo P ops x2 a' c2) (r3 : RunsTo P ops x3 a' c3) (r4 : RunsTo P ops x4 a' c4) (r5 : RunsTo P ops x5 a' c5)
    (h : ∀ g1 g2 g3 g4 g5 W, (B0 ≤ g1 ∧ B0 ≤ g2 ∧ B0 ≤ g3 ∧ B0 ≤ g4 ∧ B0 ≤ g5) → (g1 ≠ g2 ∧ g1 ≠ g3 ∧ g1 ≠ g4 ∧ g1 ≠ g5 ∧ g2 ≠ g3 ∧ g2 ≠ g4 ∧ g2 ≠ g5 ∧ g3 ≠ g4 ∧ g3 ≠ g5 ∧ g4 ≠ g5) → D' W → Box W g1 c1 x1.T → Box W g2 c2 x2.T → Box W g3 c3 x3.T → Box W g4 c4 x4.T → Box W g5 c5 x5.T →
      G ((((((((((a'.put (some x1.d) (valV x1.n g1)).put (some x2.d) (valV x2.n g2)).put (some x3.d) (valV x3.n g3)).put (some x4.d) (valV x4.n g4)).put (some x5.d) (valV x5.n g5)).put (some y1.d) (valV y1.n g1)).put (some y2.d) (valV y2.n g2)).put (some y3.d) (valV y3.n g3)).put (some y4.d) (valV y4.n g4)).put (some y5.d) (valV y5.n g5)) W) :
    ∀ σ W, (∀ x ∈ al, ∃ g, σ x.i = some g) → D' W → GoodV P ops al B0 σ a' W → G (appV al σ a') W := fun σ W hσ hW hG => by
  simp only [Bool.and_eq_true, Option.isNone_iff_eq_none, beq_iff_eq] at hs
  have hn' : (al.map (·.i)).Nodup := of_decide_eq_true hn
  have s1 := hs.1.1.1.1.1
  have t1 := hs.1.1.1.1.2
  have m1 : x1 ∈ al := by rw [hal]; simp
  have l1 : y1 ∈ al := by rw [hal]; simp
  obtain ⟨g1, e1⟩ := hσ x1 m1
  obtain ⟨k1, f1⟩ := hσ y1 l1
  have q1 := (hG y1 l1 k1 f1).2 _ t1
  rw [e1] at q1
  obtain rfl := Option.some.inj q1
  have b1 := hG.box m1 e1 s1 r1
  have d1 := ((hG x1 m1 _ e1).1 s1).2.2
  have s2 := hs.1.1.1.2.1
  have t2 := hs.1.1.1.2.2
  have m2 : x2 ∈ al := by rw [hal]; simp
  have l2 : y2 ∈ al := by rw [hal]; simp
  obtain ⟨g2, e2⟩ := hσ x2 m2
  obtain ⟨k2, f2⟩ := hσ y2 l2
  have q2 := (hG y2 l2 k2 f2).2 _ t2
  rw [e2] at q2
  obtain rfl := Option.some.inj q2
  have b2 := hG.box m2 e2 s2 r2
  have d2 := ((hG x2 m2 _ e2).1 s2).2.2
  have s3 := hs.1.1.2.1
  have t3 := hs.1.1.2.2
  have m3 : x3 ∈ al := by rw [hal]; simp
  have l3 : y3 ∈ al := by rw [hal]; simp
  obtain ⟨g3, e3⟩ := hσ x3 m3
  obtain ⟨k3, f3⟩ := hσ y3 l3
  have q3 := (hG y3 l3 k3 f3).2 _ t3
  rw [e3] at q3
  obtain rfl := Option.some.inj q3
  have b3 := hG.box m3 e3 s3 r3
  have d3 := ((hG x3 m3 _ e3).1 s3).2.2
  have s4 := hs.1.2.1
  have t4 := hs.1.2.2
  have m4 : x4 ∈ al := by rw [hal]; simp
  have l4 : y4 ∈ al := by rw [hal]; simp
  obtain ⟨g4, e4⟩ := hσ x4 m4
  obtain ⟨k4, f4⟩ := hσ y4 l4
  have q4 := (hG y4 l4 k4 f4).2 _ t4
  rw [e4] at q4
  obtain rfl := Option.some.inj q4
  have b4 := hG.box m4 e4 s4 r4
  have d4 := ((hG x4 m4 _ e4).1 s4).2.2
  have s5 := hs.2.1
  have t5 := hs.2.2
  have m5 : x5 ∈ al := by rw [hal]; simp
  have l5 : y5 ∈ al := by rw [hal]; simp
  obtain ⟨g5, e5⟩ := hσ x5 m5
  obtain ⟨k5, f5⟩ := hσ y5 l5
  have q5 := (hG y5 l5 k5 f5).2 _ t5
  rw [e5] at q5
  obtain rfl := Option.some.inj q5
  have b5 := hG.box m5 e5 s5 r5
  have d5 := ((hG x5 m5 _ e5).1 s5).2.2
  rw [hal] at hn'
  simp only [List.map_cons, List.map_nil, List.nodup_cons, List.mem_cons, not_or] at hn'
  have n12 : x1.i ≠ x2.i := fun e => by simp [e] at hn'
  have n13 : x1.i ≠ x3.i := fun e => by simp [e] at hn'
  have n14 : x1.i ≠ x4.i := fun e => by simp [e] at hn'
  have n15 : x1.i ≠ x5.i := fun e => by simp [e] at hn'
  have n23 : x2.i ≠ x3.i := fun e => by simp [e] at hn'
  have n24 : x2.i ≠ x4.i := fun e => by simp [e] at hn'
  have n25 : x2.i ≠ x5.i := fun e => by simp [e] at hn'
  have n34 : x3.i ≠ x4.i := fun e => by simp [e] at hn'
  have n35 : x3.i ≠ x5.i := fun e => by simp [e] at hn'
  have n45 : x4.i ≠ x5.i := fun e => by simp [e] at hn'
  have ea : appV al σ a' = ((((((((((a'.put (some x1.d) (valV x1.n g1)).put (some x2.d) (valV x2.n g2)).put (some x3.d) (valV x3.n g3)).put (some x4.d) (valV x4.n g4)).put (some x5.d) (valV x5.n g5)).put (some y1.d) (valV y1.n g1)).put (some y2.d) (valV y2.n g2)).put (some y3.d) (valV y3.n g3)).put (some y4.d) (valV y4.n g4)).put (some y5.d) (valV y5.n g5)) := by
    rw [hal]
    unfold appV putOneV
    simp only [List.foldl_cons, List.foldl_nil, e1, e2, e3, e4, e5, f1, f2, f3, f4, f5]
  rw [ea]
  exact h _ _ _ _ _ W ⟨b1.1, b2.1, b3.1, b4.1, b5.1⟩ ⟨d1 x2 m2 s2 _ e2 n12, d1 x3 m3 s3 _ e3 n13, d1 x4 m4 s4 _ e4 n14, d1 x5 m5 s5 _ e5 n15, d2 x3 m3 s3 _ e3 n23, d2 x4 m4 s4 _ e4 n24, d2 x5 m5 s5 _ e5 n25, d3 x4 m4 s4 _ e4 n34, d3 x5 m5 s5 _ e5 n35, d4 x5 m5 s5 _ e5 n45⟩ hW b1.2 b2.2 b3.2 b4.2 b5.2
end
end Go.Proofs.YtbcgdhldkanecaaGreat
