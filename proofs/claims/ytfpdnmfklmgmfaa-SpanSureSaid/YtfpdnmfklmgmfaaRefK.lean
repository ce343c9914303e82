/- The document's own test whether the origin lies outside a hull. Places of numbers that fit 64 bits. -/
import Derived.Test.YtfpdnmfklmgmfaaRefH
import Derived.Test.YtfpdnmfklmgmfaaSigns
namespace Go.Proofs.Ytfpdnmfklmgmfaa
open Go.RowKit

/-- the block S begins with these places -/
def Held (w : World) (S : Nat) (l : List (Int × Int)) : Prop := ∃ (cur : Array Value) (t : TypeId), Box w S cur t ∧ cur.toList.take (l.length * 2) = flat l
theorem Held.up {w w' : World} {S : Nat} {l : List (Int × Int)} (h : Held w S l) (u : Up w w') : Held w' S l := by
  obtain ⟨cur, t, h1, h2⟩ := h; exact ⟨cur, t, h1.up u, h2⟩
theorem Held.lt {w : World} {S : Nat} {l : List (Int × Int)} (h : Held w S l) : S < w.heap.size := by
  obtain ⟨cur, t, h1, h2⟩ := h; exact h1.lt
theorem Held.cells {w : World} {S : Nat} {l : List (Int × Int)} (h : Held w S l) (k : Nat) (hk : k < l.length) : w.cell? ⟨S, k * 2, none⟩ = some (.int .i64 l[k].1) ∧ w.cell? ⟨S, k * 2 + 1, none⟩ = some (.int .i64 l[k].2) := by
  obtain ⟨cur, t, h1, h2⟩ := h
  obtain ⟨f0, f1⟩ := flat_at l k hk
  rw [← h2] at f0 f1
  rw [List.getElem?_take] at f0 f1
  rw [if_pos (by omega)] at f0 f1
  exact ⟨h1.cell _ (by simpa using f0), h1.cell _ (by simpa using f1)⟩

def fit64 (p : Int × Int) : Prop := (-9223372036854775808 ≤ p.1 ∧ p.1 ≤ 9223372036854775807) ∧ (-9223372036854775808 ≤ p.2 ∧ p.2 ≤ 9223372036854775807)
/-- q lies, seen from the origin, on one side of p: less than half a turn -/
def sideB (p q : Int × Int) : Bool := decide (0 < sgnI (p.1 * q.2 - p.2 * q.1)) || (decide (sgnI (p.1 * q.2 - p.2 * q.1) = 0) && decide (0 < sgnI (p.1 * q.1 + p.2 * q.2)))
def outsideB (l : List (Int × Int)) : Bool := l.any fun p => l.all fun q => sideB p q

set_option maxHeartbeats 4000000 in
theorem outside_any (S : Nat) (cap : Nat) (l : List (Int × Int)) (hl : ∀ p ∈ l, fit64 p) (hn : l.length ≤ 16) (hc : l.length ≤ cap) (w : World) (hS : Held w S l) :
    Gives Try.prog 113 #[.slice (some ⟨S, 0, none⟩) l.length cap] w (.bool (outsideB l)) := by
  have HL := hide hl
  have HS := hide hS
  clear hl hS
  obtain ⟨n, hN⟩ : ∃ n, l.length = n := ⟨_, rfl⟩
  have HN := hide hN
  rw [hN] at hn hc ⊢
  clear hN
  (unfold Gives; go_enter Try.func113, Try.ntmps113)
  go_wp2
  go_loopw [3] (fun s3 wr => ∃ i : Nat, i ≤ n ∧ s3 = .int .i64 i ∧ Hid ((∀ p ∈ l.take i, (l.all fun q => sideB p q) = false) ∧ Up w wr)) (fun s3 _ => n - (intOf s3).toNat)
  case atStart => exact ⟨0, by omega, rfl, hide ⟨by simp, (by repeat (first | with_reducible exact Up.refl _ | apply Up.ext | apply Up.alloc | apply Up.drew | (refine Up.setCell ?_ (by simp; try omega) _)))⟩⟩
  case round =>
    obtain ⟨i, hi, rfl, hR⟩ := hrel
    by_cases hlt : i < n
    · have hkb : decide ((i : Int) < n) = true := by simp; omega
      go_wp2
      obtain ⟨wo, hwo⟩ : ∃ wo : World, wo = wr := ⟨_, rfl⟩
      have HU := hide hR.out.2
      rw [← hwo] at HU ⊢
      clear hwo
      go_loopw [4, 5] (fun s4 s5 wj => ∃ (k : Nat) (f : Bool), k ≤ n ∧ s4 = .bool f ∧ s5 = .int .i64 k ∧ Hid (f = ((l.take k).all fun q => sideB (l[i]'(by rw [HN.out]; exact hlt)) q) ∧ Up w wj)) (fun _ s5 _ => n - (intOf s5).toNat)
      case atStart => exact ⟨0, true, by omega, rfl, rfl, hide ⟨by simp, HU.out⟩⟩
      case round =>
        obtain ⟨k, f, hk, rfl, rfl, hJ⟩ := hrel
        have hil : i < l.length := by rw [HN.out]; exact hlt
        by_cases hkt : k < n
        · have hjb : decide ((k : Int) < n) = true := by simp; omega
          have hkl : k < l.length := by rw [HN.out]; exact hkt
          have hSj := HS.out.up hJ.out.2
          obtain ⟨c0, c1⟩ := hSj.cells i hil
          obtain ⟨d0, d1⟩ := hSj.cells k hkl
          have sz := hSj.lt
          clear hSj
          have z0 : (0 : Int) ≤ (i : Int) := by omega
          have z1 : (i : Int) < n := by omega
          have z2 : (0 : Int) ≤ (k : Int) := by omega
          have z3 : (k : Int) < n := by omega
          obtain ⟨⟨p0, p1⟩, p2, p3⟩ := HL.out l[i] (List.getElem_mem hil)
          obtain ⟨⟨q0, q1⟩, q2, q3⟩ := HL.out l[k] (List.getElem_mem hkl)
          obtain ⟨T, hT⟩ : ∃ T, sideB l[i] l[k] = T := ⟨_, rfl⟩
          have hst := hide (show ((l.take (k + 1)).all fun q => sideB l[i] q) = (f && T) by
            rw [← List.take_append_getElem hkl, List.all_append, ← hJ.out.1]; simp [hT])
          have hTX : T = (decide (0 < sgnI (l[i].1 * l[k].2 - l[i].2 * l[k].1)) || (decide (sgnI (l[i].1 * l[k].2 - l[i].2 * l[k].1) = 0) && decide (0 < sgnI (l[i].1 * l[k].1 + l[i].2 * l[k].2)))) := by rw [← hT]; rfl
          have HT := hide hTX
          clear hT hTX
          have K1 := hide (fun W => rcross_sgn l[i].1 l[i].2 l[k].1 l[k].2 p0 p1 p2 p3 q0 q1 q2 q3 W)
          have K2 := hide (fun W => rdot_sgn l[i].1 l[i].2 l[k].1 l[k].2 p0 p1 p2 p3 q0 q1 q2 q3 W)
          generalize sgnI (l[i].1 * l[k].2 - l[i].2 * l[k].1) = X at *
          generalize sgnI (l[i].1 * l[k].1 + l[i].2 * l[k].2) = Y at *
          have hU := hide hJ.out.2
          clear p0 p1 p2 p3 q0 q1 q2 q3
          generalize l[i].1 = pi1 at *
          generalize l[i].2 = pi2 at *
          generalize l[k].1 = pk1 at *
          generalize l[k].2 = pk2 at *
          cases f
          · go_wp2
            ((first | with_reducible refine wp_region_ext2 (by kernel_rfl) (by kernel_rfl) ?_ | refine wp_region_ext (by kernel_rfl) (by kernel_rfl) ?_); (repeat (go_big_quiet_step ((go_at_call 27; exact Gives.inRegion (K1.out _))))); refine wpQuiet_nil ?_; intro _ hw'; obtain ⟨_, hw''⟩ := hw'; subst hw'')
            go_wp2
            ((first | with_reducible refine wp_region_ext2 (by kernel_rfl) (by kernel_rfl) ?_ | refine wp_region_ext (by kernel_rfl) (by kernel_rfl) ?_); (repeat (go_big_quiet_step ((go_at_call 29; exact Gives.inRegion (K2.out _))))); refine wpQuiet_nil ?_; intro _ hw'; obtain ⟨_, hw''⟩ := hw'; subst hw'')
            go_wp2
            exact ⟨⟨k + 1, false, by omega, rfl, by go_num, hide ⟨by rw [hst.out]; simp [], by repeat (first | exact hU.out | apply Up.ext | apply Up.drew)⟩⟩, by simp [intOf]; omega⟩
          · by_cases hX : 0 < X
            · go_wp2
              ((first | with_reducible refine wp_region_ext2 (by kernel_rfl) (by kernel_rfl) ?_ | refine wp_region_ext (by kernel_rfl) (by kernel_rfl) ?_); (repeat (go_big_quiet_step ((go_at_call 27; exact Gives.inRegion (K1.out _))))); refine wpQuiet_nil ?_; intro _ hw'; obtain ⟨_, hw''⟩ := hw'; subst hw'')
              go_wp2
              ((first | with_reducible refine wp_region_ext2 (by kernel_rfl) (by kernel_rfl) ?_ | refine wp_region_ext (by kernel_rfl) (by kernel_rfl) ?_); (repeat (go_big_quiet_step ((go_at_call 29; exact Gives.inRegion (K2.out _))))); refine wpQuiet_nil ?_; intro _ hw'; obtain ⟨_, hw''⟩ := hw'; subst hw'')
              go_wp2
              exact ⟨⟨k + 1, true, by omega, rfl, by go_num, hide ⟨by rw [hst.out, HT.out]; simp [hX], by repeat (first | exact hU.out | apply Up.ext | apply Up.drew)⟩⟩, by simp [intOf]; omega⟩
            · by_cases hX0 : X = 0
              · subst hX0
                clear hX
                by_cases hY : 0 < Y
                · go_wp2
                  ((first | with_reducible refine wp_region_ext2 (by kernel_rfl) (by kernel_rfl) ?_ | refine wp_region_ext (by kernel_rfl) (by kernel_rfl) ?_); (repeat (go_big_quiet_step ((go_at_call 27; exact Gives.inRegion (K1.out _))))); refine wpQuiet_nil ?_; intro _ hw'; obtain ⟨_, hw''⟩ := hw'; subst hw'')
                  go_wp2
                  ((first | with_reducible refine wp_region_ext2 (by kernel_rfl) (by kernel_rfl) ?_ | refine wp_region_ext (by kernel_rfl) (by kernel_rfl) ?_); (repeat (go_big_quiet_step ((go_at_call 29; exact Gives.inRegion (K2.out _))))); refine wpQuiet_nil ?_; intro _ hw'; obtain ⟨_, hw''⟩ := hw'; subst hw'')
                  go_wp2
                  exact ⟨⟨k + 1, true, by omega, rfl, by go_num, hide ⟨by rw [hst.out, HT.out]; simp [hY], by repeat (first | exact hU.out | apply Up.ext | apply Up.drew)⟩⟩, by simp [intOf]; omega⟩
                · have hY' : Y ≤ 0 := by omega
                  clear hY
                  go_wp2
                  ((first | with_reducible refine wp_region_ext2 (by kernel_rfl) (by kernel_rfl) ?_ | refine wp_region_ext (by kernel_rfl) (by kernel_rfl) ?_); (repeat (go_big_quiet_step ((go_at_call 27; exact Gives.inRegion (K1.out _))))); refine wpQuiet_nil ?_; intro _ hw'; obtain ⟨_, hw''⟩ := hw'; subst hw'')
                  go_wp2
                  ((first | with_reducible refine wp_region_ext2 (by kernel_rfl) (by kernel_rfl) ?_ | refine wp_region_ext (by kernel_rfl) (by kernel_rfl) ?_); (repeat (go_big_quiet_step ((go_at_call 29; exact Gives.inRegion (K2.out _))))); refine wpQuiet_nil ?_; intro _ hw'; obtain ⟨_, hw''⟩ := hw'; subst hw'')
                  go_wp2
                  exact ⟨⟨k + 1, _, by omega, rfl, by go_num, hide ⟨by rw [hst.out, HT.out]; simp, by repeat (first | exact hU.out | apply Up.ext | apply Up.drew)⟩⟩, by simp [intOf]; omega⟩
              · have hX' : X < 0 := by omega
                have hXb : (X == 0) = false := by simp [hX0]
                have hXc : decide (0 < X) = false := by simp; omega
                have hXd := hide (And.intro hX hX0)
                clear hX hX0
                go_wp2
                ((first | with_reducible refine wp_region_ext2 (by kernel_rfl) (by kernel_rfl) ?_ | refine wp_region_ext (by kernel_rfl) (by kernel_rfl) ?_); (repeat (go_big_quiet_step ((go_at_call 27; exact Gives.inRegion (K1.out _))))); refine wpQuiet_nil ?_; intro _ hw'; obtain ⟨_, hw''⟩ := hw'; subst hw'')
                go_wp2
                ((first | with_reducible refine wp_region_ext2 (by kernel_rfl) (by kernel_rfl) ?_ | refine wp_region_ext (by kernel_rfl) (by kernel_rfl) ?_); (repeat (go_big_quiet_step ((go_at_call 29; exact Gives.inRegion (K2.out _))))); refine wpQuiet_nil ?_; intro _ hw'; obtain ⟨_, hw''⟩ := hw'; subst hw'')
                go_wp2
                exact ⟨⟨k + 1, false, by omega, rfl, by go_num, hide ⟨by rw [hst.out, HT.out]; simp [hXd.out], by repeat (first | exact hU.out | apply Up.ext | apply Up.drew)⟩⟩, by simp [intOf]; omega⟩
        · have hjb : decide ((k : Int) < n) = false := by simp; omega
          obtain rfl : k = n := by omega
          have hE := hJ.out.1
          rw [List.take_of_length_le (by rw [HN.out]; omega)] at hE
          have HE := hide hE
          have hU := hide hJ.out.2
          clear hE hJ
          cases f
          · go_wp2
            refine ⟨⟨i + 1, by omega, by go_num, hide ⟨?_, hU.out⟩⟩, by simp [intOf]; omega⟩
            intro p hp
            rw [← List.take_append_getElem hil, List.mem_append] at hp
            rcases hp with hp | hp
            · exact hR.out.1 p hp
            · rw [List.mem_singleton] at hp
              rw [hp]; exact HE.out.symm
          · go_wp2
            go_ret
            refine ⟨ret_bool ?_, hU.out⟩
            exact (List.any_eq_true.2 ⟨l[i], List.getElem_mem hil, HE.out.symm⟩).symm
    · have hkb : decide ((i : Int) < n) = false := by simp; omega
      obtain rfl : i = n := by omega
      go_wp2
      go_ret
      refine ⟨ret_bool ?_, hR.out.2⟩
      have h := hR.out.1
      rw [List.take_of_length_le (by rw [HN.out]; omega)] at h
      unfold outsideB
      symm
      rw [List.any_eq_false]
      intro p hp
      rw [h p hp]; simp
end Go.Proofs.Ytfpdnmfklmgmfaa
