/- Offers made of numbers: plain parts; a sight made of numbers in a world in which the ring has been asked. Conditions: bounded numbers, what lies in memory. -/
import Derived.Test.YtnaiaodnnmhdkaaGreatSight
namespace Go.Proofs.YtnaiaodnnmhdkaaGreat
set_option linter.unusedVariables false
set_option linter.unusedSimpArgs false
open Go.RowKit Go.Shelf

theorem offE_mk {s : SkyD} (hs : skyE s = 0) {kind st cat tick dx dy err far wide cost : Int} {sure : Bool} (hk : kind = 1 ∨ kind = 2) (ht : 0 ≤ tick ∧ tick ≤ 1000000) (hst : (s.stations.any fun x => x.1 == st) = true) (hct : (s.catalogs.any fun x => x.1 == cat) = true)
    (hd : (-4096 ≤ dx ∧ dx ≤ 4096) ∧ (-4096 ≤ dy ∧ dy ≤ 4096) ∧ ¬ (dx = 0 ∧ dy = 0)) (he : 0 ≤ err ∧ err ≤ 500000) (hf : 1 ≤ far ∧ far ≤ 134217728) (hw : 0 ≤ wide ∧ wide ≤ 1000000) (hc : 0 ≤ cost ∧ cost ≤ 1000) :
    offE s ⟨kind, st, cat, tick, dx, dy, err, far, wide, cost, sure⟩ = 0 := by
  have wt : ∀ {x a b : Int}, a ≤ x → x ≤ b → withinB x a b = true := fun h1 h2 => by unfold withinB; exact decide_eq_true ⟨h1, h2⟩
  unfold offE offE0
  rw [if_pos hs]
  dsimp only
  rw [if_neg (by omega), if_neg (by rw [wt (by omega) (by omega)]; simp), if_neg (by rw [hst]; simp), if_neg (by rw [wt he.1 he.2, wt hf.1 hf.2, wt hc.1 hc.2]; simp)]
  by_cases h2 : kind = 2
  · rw [if_pos h2]
  · rw [if_neg h2, if_neg (by rw [hct]; simp), if_neg]
    rw [wt hd.1.1 hd.1.2, wt hd.2.1.1 hd.2.1.2, wt hw.1 hw.2]
    have : (dx == 0 && dy == 0) = false := by
      have := hd.2.2
      rw [Bool.eq_false_iff]
      intro h
      simp at h
      exact this h
    rw [this]
    simp
theorem quarter {er : Int} (h0 : 0 ≤ er) (h1 : er ≤ 39999) : 0 ≤ er.tdiv 4 ∧ er.tdiv 4 ≤ 500000 := by
  rw [Int.tdiv_eq_ediv_of_nonneg h0]; omega
theorem far_half {far : Int} (h0 : 1 ≤ far) (h1 : far ≤ 134217728) : 1 ≤ 1 + far.tdiv 2 ∧ 1 + far.tdiv 2 ≤ 134217728 := by
  rw [Int.tdiv_eq_ediv_of_nonneg (by omega)]; omega

theorem sightof_at {w : World} {sl : Value} (hN : Nums w sl) {B : Nat} (hB : w.heap.size ≤ B) {K : Nat → Prop} (hK : ∀ b, K b → b ≠ B) {a sa ca : Option Addr} {n c sn sc cn cc : Nat} {s : SkyD} {tick px py : Int} (hs : skyE s = 0) (hn1 : 0 < sn) (hn2 : 0 < cn) (k0 : 0 ≤ tick ∧ tick ≤ 1000000) (hp : (-32000000 ≤ px ∧ px ≤ 32000000) ∧ -32000000 ≤ py ∧ py ≤ 32000000)
    {t : Int} {W V : World} (hu : Up w W) (hb : Box W B #[sl, .int .i64 t] 146) (hL : SkyL K W a n c sa sn sc ca cn cc s) {m : Int} (hW : RingAt W B m V) (hm : m + 8 ≤ 100000) :
    Calls Tryz.prog 137 #[.pointer (some ⟨B, 0, none⟩), .agg #[.slice a n c, .int .i64 s.home, .slice sa sn sc, .slice ca cn cc], .int .i64 tick, .agg #[.int .i64 (px), .int .i64 (py)]] V fun e W' => ∃ v, e = .returned v ∧ RSight s tick v ∧ RingAt W B (m + 8) W' ∧ V.grownBy W' (some B) := by
  obtain ⟨t1, h0, h1, hbW⟩ := hW.box hb
  refine (sightof_any hN hB hK hs hn1 hn2 k0 hp t1 V (hW.up hu hB) hbW (hL.keeps (hW.keepsK hK)) h0 (by omega)).mono ?_
  rintro e W' ⟨v, t', p', he, h2, h3, h4, rfl⟩
  exact ⟨v, he, h2, hW.called hb.lt h3 (by omega) p', grown_up (grown_set (grown_refl _ _) _ _) ((Up.refl _).ext _)⟩
end Go.Proofs.YtnaiaodnnmhdkaaGreat
