/- The document's own Clear: what it returns. No conditions. -/
import Derived.Test.YtfpdnmfklmgmfaaRefL
import Derived.Deep.RegionLaw
import Derived.Deep.AppendLies
namespace Go.Proofs.Ytfpdnmfklmgmfaa
open Go.RowKit

theorem vec_info : (Try.prog.info? 23).map (fun i => (i.zero, i.size, i.bytes)) = some (some (.agg #[.int .i64 0, .int .i64 0]), 2, 16) := by kernel_rfl

theorem pairs_of_index (l : List (Int × Int)) (r : Int) (h : ∀ (a c : Nat) (p q : Int × Int), a < l.length → c ≤ a → l[a]? = some p → l[c]? = some q → comesB p.1 p.2 q.1 q.2 r = false) : pairsB l r = true := by
  unfold pairsB
  rw [List.all_eq_true]
  intro p hp
  rw [List.all_eq_true]
  intro q hq
  obtain ⟨a, ha, rfl⟩ := List.getElem_of_mem hp
  obtain ⟨c, hc, rfl⟩ := List.getElem_of_mem hq
  rcases Nat.le_total c a with hca | hca
  · rw [h a c _ _ ha hca (List.getElem?_eq_getElem ha) (List.getElem?_eq_getElem hc)]; rfl
  · rw [← comes_swap, h c a _ _ hc hca (List.getElem?_eq_getElem hc) (List.getElem?_eq_getElem ha)]; rfl

set_option maxRecDepth 100000 in
set_option maxHeartbeats 8000000 in
theorem rclear_any (a b : Ar) (r : Int) (w : World) : Gives Try.prog 66 #[.agg #[.int .i64 a.1, .int .i64 a.2.1, .int .i64 a.2.2.1, .int .i64 a.2.2.2], .agg #[.int .i64 b.1, .int .i64 b.2.1, .int .i64 b.2.2.1, .int .i64 b.2.2.2], .int .i64 r] w (.bool (clearB a b r)) := by
  by_cases hr : rightB a b r = true
  · obtain ⟨ha, hb, r0, r1⟩ := right_ok hr
    have hfar := farV_corners (l := [a, b]) (by simp [ha, hb])
    rw [clearB_eq a b r hr]
    have hS := hide (fun W => rsure_any a b r W)
    rw [hr] at hS
    clear ha hb hr
    obtain ⟨x0, x1, y0, y1⟩ := a
    obtain ⟨u0, u1, v0, v1⟩ := b
    obtain ⟨l, hl⟩ : ∃ l, cornersL [(x0, x1, y0, y1), (u0, u1, v0, v1)] = l := ⟨_, rfl⟩
    have hlen : l.length = 8 := by rw [← hl]; rfl
    have hflat : flat l = [.int .i64 x0, .int .i64 y0, .int .i64 x0, .int .i64 y1, .int .i64 x1, .int .i64 y0, .int .i64 x1, .int .i64 y1] ++ [.int .i64 u0, .int .i64 v0, .int .i64 u0, .int .i64 v1, .int .i64 u1, .int .i64 v0, .int .i64 u1, .int .i64 v1] := by rw [← hl]; rfl
    rw [hl] at hfar ⊢
    clear hl
    have HF := hide hfar
    have HL := hide hlen
    have HFl := hide hflat
    clear hfar hlen hflat
    obtain ⟨i0, hi0, hz0, hz1, hz2⟩ := info_parts vec_info
    have HI := hide (And.intro hi0 (And.intro hz0 (And.intro hz1 hz2)))
    clear hi0 hz0 hz1 hz2
    (unfold Gives; go_enter Try.func66, Try.ntmps66)
    go_wp2_with (go_at_call 107; (with_reducible refine (hS.out _).mono ?_); intro _)
    obtain ⟨wr, hwr⟩ : ∃ wr, ext ((w.alloc (.cells #[.int .i64 x0, .int .i64 x1, .int .i64 y0, .int .i64 y1] 44)).alloc (.cells #[.int .i64 u0, .int .i64 u1, .int .i64 v0, .int .i64 v1] 44)) (by assumption) = wr := ⟨_, rfl⟩
    have bA : Box wr w.heap.size #[.int .i64 x0, .int .i64 x1, .int .i64 y0, .int .i64 y1] 44 := by rw [← hwr]; exact (((Box.mk rfl).alloc _).ext _)
    have bB : Box wr (w.heap.size + 1) #[.int .i64 u0, .int .i64 u1, .int .i64 v0, .int .i64 v1] 44 := by rw [← hwr]; exact ((Box.mk (by simp)).ext _)
    have hup : Up w wr := by rw [← hwr]; exact ((((Up.refl _).alloc _).alloc _).ext _)
    rw [hwr]
    clear hwr
    have c0 := bA.cell 0 rfl
    have c1 := bA.cell 1 rfl
    have c2 := bA.cell 2 rfl
    have c3 := bA.cell 3 rfl
    have d0 := bB.cell 0 rfl
    have d1 := bB.cell 1 rfl
    have d2 := bB.cell 2 rfl
    have d3 := bB.cell 3 rfl
    have g0 : ∀ o1 o2, ((wr.alloc o1).alloc o2).cell? ⟨w.heap.size + 1, 0, none⟩ = some (.int .i64 u0) := fun o1 o2 => ((bB.alloc o1).alloc o2).cell 0 rfl
    have g1 : ∀ o1 o2, ((wr.alloc o1).alloc o2).cell? ⟨w.heap.size + 1, 1, none⟩ = some (.int .i64 u1) := fun o1 o2 => ((bB.alloc o1).alloc o2).cell 1 rfl
    have g2 : ∀ o1 o2, ((wr.alloc o1).alloc o2).cell? ⟨w.heap.size + 1, 2, none⟩ = some (.int .i64 v0) := fun o1 o2 => ((bB.alloc o1).alloc o2).cell 2 rfl
    have g3 : ∀ o1 o2, ((wr.alloc o1).alloc o2).cell? ⟨w.heap.size + 1, 3, none⟩ = some (.int .i64 v1) := fun o1 o2 => ((bB.alloc o1).alloc o2).cell 3 rfl
    have hP1 : Box ((((wr.alloc (.cells #[.int .i64 x0, .int .i64 x1, .int .i64 y0, .int .i64 y1] 44)).alloc (.cells #[.int .i64 x0, .int .i64 y0, .int .i64 x0, .int .i64 y1, .int .i64 x1, .int .i64 y0, .int .i64 x1, .int .i64 y1] 23)).alloc (.cells #[.int .i64 u0, .int .i64 u1, .int .i64 v0, .int .i64 v1] 44)).alloc (.cells #[.int .i64 u0, .int .i64 v0, .int .i64 u0, .int .i64 v1, .int .i64 u1, .int .i64 v0, .int .i64 u1, .int .i64 v1] 23)).drew (wr.heap.size + 1) #[.int .i64 x0, .int .i64 y0, .int .i64 x0, .int .i64 y1, .int .i64 x1, .int .i64 y0, .int .i64 x1, .int .i64 y1] 23 := (((Box.mk (by simp)).alloc _).alloc _)
    have hP2 : Box ((((wr.alloc (.cells #[.int .i64 x0, .int .i64 x1, .int .i64 y0, .int .i64 y1] 44)).alloc (.cells #[.int .i64 x0, .int .i64 y0, .int .i64 x0, .int .i64 y1, .int .i64 x1, .int .i64 y0, .int .i64 x1, .int .i64 y1] 23)).alloc (.cells #[.int .i64 u0, .int .i64 u1, .int .i64 v0, .int .i64 v1] 44)).alloc (.cells #[.int .i64 u0, .int .i64 v0, .int .i64 u0, .int .i64 v1, .int .i64 u1, .int .i64 v0, .int .i64 u1, .int .i64 v1] 23)).drew (wr.heap.size + 1 + 1 + 1) #[.int .i64 u0, .int .i64 v0, .int .i64 u0, .int .i64 v1, .int .i64 u1, .int .i64 v0, .int .i64 u1, .int .i64 v1] 23 := Box.mk (by simp)
    have hO : ((((wr.alloc (.cells #[.int .i64 x0, .int .i64 x1, .int .i64 y0, .int .i64 y1] 44)).alloc (.cells #[.int .i64 x0, .int .i64 y0, .int .i64 x0, .int .i64 y1, .int .i64 x1, .int .i64 y0, .int .i64 x1, .int .i64 y1] 23)).alloc (.cells #[.int .i64 u0, .int .i64 u1, .int .i64 v0, .int .i64 v1] 44)).alloc (.cells #[.int .i64 u0, .int .i64 v0, .int .i64 u0, .int .i64 v1, .int .i64 u1, .int .i64 v0, .int .i64 u1, .int .i64 v1] 23)).drew.ownsRow wr.heap.size 23 2 (.slice (some ⟨wr.heap.size + 1, 0, none⟩) 4 4) 4 [.int .i64 x0, .int .i64 y0, .int .i64 x0, .int .i64 y1, .int .i64 x1, .int .i64 y0, .int .i64 x1, .int .i64 y1] :=
      ⟨rfl, .inr ⟨_, 4, #[.int .i64 x0, .int .i64 y0, .int .i64 x0, .int .i64 y1, .int .i64 x1, .int .i64 y0, .int .i64 x1, .int .i64 y1], rfl, by omega, hP1, by omega, by unfold maxLen; omega, rfl, rfl⟩⟩
    have hN := hide (World.news_of_block hP2)
    have hU4 := hide (show Up w ((((wr.alloc (.cells #[.int .i64 x0, .int .i64 x1, .int .i64 y0, .int .i64 y1] 44)).alloc (.cells #[.int .i64 x0, .int .i64 y0, .int .i64 x0, .int .i64 y1, .int .i64 x1, .int .i64 y0, .int .i64 x1, .int .i64 y1] 23)).alloc (.cells #[.int .i64 u0, .int .i64 u1, .int .i64 v0, .int .i64 v1] 44)).alloc (.cells #[.int .i64 u0, .int .i64 v0, .int .i64 u0, .int .i64 v1, .int .i64 u1, .int .i64 v0, .int .i64 u1, .int .i64 v1] 23)).drew from (((((hup.alloc _).alloc _).alloc _).alloc _).drew))
    have hsz4 := hide (show ((((wr.alloc (.cells #[.int .i64 x0, .int .i64 x1, .int .i64 y0, .int .i64 y1] 44)).alloc (.cells #[.int .i64 x0, .int .i64 y0, .int .i64 x0, .int .i64 y1, .int .i64 x1, .int .i64 y0, .int .i64 x1, .int .i64 y1] 23)).alloc (.cells #[.int .i64 u0, .int .i64 u1, .int .i64 v0, .int .i64 v1] 44)).alloc (.cells #[.int .i64 u0, .int .i64 v0, .int .i64 u0, .int .i64 v1, .int .i64 u1, .int .i64 v0, .int .i64 u1, .int .i64 v1] 23)).drew.heap.size = wr.heap.size + 1 + 1 + 1 + 1 by simp)
    have hwsz : w.heap.size + 1 < wr.heap.size := bB.lt
    have HO := hide hO
    clear hO hP1 hP2 bA bB hup
    go_region_law (first | ((go_simp; go_at_call 110; refine (points_lit _ _ _ _ _).mono ?_; rintro _ _ ⟨rfl, rfl⟩)) | ((refine step_append_lies _ (by rfl) _ _ _ (by rfl) wr.heap.size 23 i0 _ 2 16 Try.underlying108 HI.out.1 HI.out.2.1 HI.out.2.2.1 HI.out.2.2.2 rfl (by omega) (.slice (some ⟨wr.heap.size + 1, 0, none⟩) 4 4) 4 [.int .i64 x0, .int .i64 y0, .int .i64 x0, .int .i64 y1, .int .i64 x1, .int .i64 y0, .int .i64 x1, .int .i64 y1] (by rfl) HO.out ⟨wr.heap.size + 1 + 1 + 1, 0, none⟩ 4 4 [.int .i64 u0, .int .i64 v0, .int .i64 u0, .int .i64 v1, .int .i64 u1, .int .i64 v0, .int .i64 u1, .int .i64 v1] (by rfl) rfl hN.out (by simp [Value.oneCell']) (by omega) (by unfold maxLen; omega) (by omega) (by simp; omega) (wr.heap.size + 1 + 1 + 1 + 1) (by simp) ?_; intro g cap w1 hown hgrow hat hlt)))
    all_goals
      obtain ⟨_, hh | ⟨g', cap', cur, hv, hb, hbox, hcap, hcap2, hcsz, htake⟩⟩ := hown
      · cases hh.1
      cases hv
      have hHeld : Held w1 g l := ⟨cur, 23, hbox, by rw [HL.out, HFl.out]; exact htake⟩
      have hUp : Up w w1 := Up.of_below (hU4.out.below.grown hgrow hU4.out.below.size (fun k e => by
        have e2 : wr.heap.size + 1 = k := by simpa [Value.ownBlock] using e
        omega))
      have HH := hide (And.intro hHeld hUp)
      have hcap8 : 8 ≤ cap := by omega
      have KO := hide (fun W (hW : Held W g l) => outside_any g cap l (fun p hp => by have h := (farV_iff p).1 (HF.out p hp); unfold fit64; omega) (by rw [HL.out]; omega) (by rw [HL.out]; omega) W hW)
      rw [HL.out] at KO
      clear hgrow hat hlt hb hbox hcap hcap2 hcsz htake hHeld hUp c0 c1 c2 c3 d0 d1 d2 d3 g0 g1 g2 g3 hN hU4 hsz4 hwsz HO HI HFl
      obtain ⟨O, hO⟩ : ∃ O, outsideB l = O := ⟨_, rfl⟩
      rw [hO] at KO
      have HQ := hide hO
      clear hO
      cases O
      · unfold Exit.then
        go_simp
        go_wp2_with (go_at_call 113; refine (KO.out _ HH.out.1).mono ?_; intro px)
        go_ret
        refine ⟨ret_bool ?_, HH.out.2.ext _⟩
        rw [HQ.out]; rfl
      · unfold Exit.then
        go_simp
        go_wp2_with (go_at_call 113; refine (KO.out _ HH.out.1).mono ?_; intro px)
        have HH2 := hide (And.intro (HH.out.1.up ((Up.refl _).ext px)) (HH.out.2.ext px))
        generalize ext w1 px = w2 at *
        clear HH
        have sz := HH2.out.1.lt
        go_loopw [8] (fun s8 wr => ∃ i : Nat, i ≤ 8 ∧ s8 = .int .i64 i ∧ Hid ((∀ (a c : Nat) (p q : Int × Int), a < i → c ≤ a → l[a]? = some p → l[c]? = some q → comesB p.1 p.2 q.1 q.2 r = false) ∧ Up w2 wr)) (fun s8 _ => 8 - (intOf s8).toNat)
        case atStart => exact ⟨0, by omega, rfl, hide ⟨by omega, Up.refl _⟩⟩
        case round =>
          obtain ⟨i, hi, rfl, hR⟩ := hrel
          by_cases hlt : i < 8
          · have hkb : decide ((i : Int) < 8) = true := by simp; omega
            go_wp2
            obtain ⟨wo, hwo⟩ : ∃ wo : World, wo = wr := ⟨_, rfl⟩
            have HU := hide hR.out.2
            rw [← hwo] at HU ⊢
            clear hwo
            go_loopw [9] (fun s9 wj => ∃ k : Nat, k ≤ i + 1 ∧ s9 = .int .i64 k ∧ Hid ((∀ (c : Nat) (p q : Int × Int), c < k → l[i]? = some p → l[c]? = some q → comesB p.1 p.2 q.1 q.2 r = false) ∧ Up w2 wj)) (fun s9 _ => i + 1 - (intOf s9).toNat)
            case atStart => exact ⟨0, by omega, rfl, hide ⟨by omega, HU.out⟩⟩
            case round =>
              obtain ⟨k, hk, rfl, hJ⟩ := hrel
              have hil : i < l.length := by rw [HL.out]; exact hlt
              by_cases hkt : k ≤ i
              · have hjb : decide ((k : Int) ≤ i) = true := by simp; omega
                have hkl : k < l.length := by rw [HL.out]; omega
                have hSj := HH2.out.1.up hJ.out.2
                obtain ⟨c0, c1⟩ := hSj.cells i hil
                obtain ⟨d0, d1⟩ := hSj.cells k hkl
                have szj := hSj.lt
                clear hSj
                have z0 : (0 : Int) ≤ (i : Int) := by omega
                have z1 : (i : Int) < 8 := by omega
                have z2 : (0 : Int) ≤ (k : Int) := by omega
                have z3 : (k : Int) < 8 := by omega
                obtain ⟨⟨p0, p1⟩, p2, p3⟩ := (farV_iff l[i]).1 (HF.out l[i] (List.getElem_mem hil))
                obtain ⟨⟨q0, q1⟩, q2, q3⟩ := (farV_iff l[k]).1 (HF.out l[k] (List.getElem_mem hkl))
                have K1 := hide (fun W => rwithin_any l[i].1 l[i].2 l[k].1 l[k].2 r p0 p1 p2 p3 q0 q1 q2 q3 r0 (by omega) W)
                obtain ⟨T, hT⟩ : ∃ T, comesB l[i].1 l[i].2 l[k].1 l[k].2 r = T := ⟨_, rfl⟩
                rw [hT] at K1
                have HT := hide (fun (p q : Int × Int) (h1 : l[i]? = some p) (h2 : l[k]? = some q) => show comesB p.1 p.2 q.1 q.2 r = T by
                  rw [List.getElem?_eq_getElem hil] at h1
                  rw [List.getElem?_eq_getElem hkl] at h2
                  cases h1; cases h2; exact hT)
                have hfail := hide (fun (h : T = true) => show pairsB l r = false by
                  unfold pairsB
                  rw [List.all_eq_false]
                  refine ⟨l[i], List.getElem_mem hil, ?_⟩
                  rw [Bool.not_eq_true, List.all_eq_false]
                  exact ⟨l[k], List.getElem_mem hkl, by rw [hT, h]; simp⟩)
                have hU := hide hJ.out.2
                clear p0 p1 p2 p3 q0 q1 q2 q3 hT
                generalize l[i].1 = pi1 at *
                generalize l[i].2 = pi2 at *
                generalize l[k].1 = pk1 at *
                generalize l[k].2 = pk2 at *
                cases T
                · go_wp2
                  ((first | with_reducible refine wp_region_ext2 (by kernel_rfl) (by kernel_rfl) ?_ | refine wp_region_ext (by kernel_rfl) (by kernel_rfl) ?_); (repeat (go_big_quiet_step ((go_at_call 78; exact Gives.inRegion (K1.out _))))); refine wpQuiet_nil ?_; intro _ hw'; obtain ⟨_, hw''⟩ := hw'; subst hw'')
                  go_wp2
                  refine ⟨⟨k + 1, by omega, by go_num, hide ⟨?_, hU.out.ext _⟩⟩, by simp [intOf]; omega⟩
                  intro c p q hc h1 h2
                  rcases Nat.lt_or_ge c k with h | h
                  · exact hJ.out.1 c p q h h1 h2
                  · obtain rfl : c = k := by omega
                    exact HT.out p q h1 h2
                · go_wp2
                  ((first | with_reducible refine wp_region_ext2 (by kernel_rfl) (by kernel_rfl) ?_ | refine wp_region_ext (by kernel_rfl) (by kernel_rfl) ?_); (repeat (go_big_quiet_step ((go_at_call 78; exact Gives.inRegion (K1.out _))))); refine wpQuiet_nil ?_; intro _ hw'; obtain ⟨_, hw''⟩ := hw'; subst hw'')
                  go_wp2
                  go_ret
                  refine ⟨ret_bool ?_, HH2.out.2.trans (hU.out.ext _)⟩
                  rw [hfail.out trivial, HQ.out]; rfl
              · have hjb : decide ((k : Int) ≤ i) = false := by simp; omega
                obtain rfl : k = i + 1 := by omega
                go_wp2
                refine ⟨⟨i + 1, by omega, by go_num, hide ⟨?_, hJ.out.2⟩⟩, by simp [intOf]; omega⟩
                intro a c p q ha hc h1 h2
                rcases Nat.lt_or_ge a i with h | h
                · exact hR.out.1 a c p q h hc h1 h2
                · obtain rfl : a = i := by omega
                  exact hJ.out.1 c p q (by omega) h1 h2
          · have hkb : decide ((i : Int) < 8) = false := by simp; omega
            obtain rfl : i = 8 := by omega
            have hall := hide (pairs_of_index l r (fun a c p q ha hc h1 h2 => hR.out.1 a c p q (by rw [← HL.out]; exact (List.getElem?_eq_some_iff.1 h1).1) hc h1 h2))
            go_wp2
            go_ret
            refine ⟨ret_bool ?_, HH2.out.2.trans hR.out.2⟩
            rw [hall.out, HQ.out]; rfl
  · have hr' : rightB a b r = false := Bool.eq_false_iff.2 hr
    rw [show clearB a b r = false by unfold clearB; rw [hr']; rfl]
    have hS := hide (fun W => rsure_any a b r W)
    rw [hr'] at hS
    clear hr hr'
    (unfold Gives; go_enter Try.func66, Try.ntmps66)
    go_wp2_with (go_at_call 107; (with_reducible refine (hS.out _).mono ?_); intro _)
    go_ret
    exact ⟨rfl, (by repeat (first | with_reducible exact Up.refl _ | apply Up.ext | apply Up.alloc | apply Up.drew | (refine Up.setCell ?_ (by simp; try omega) _)))⟩
end Go.Proofs.Ytfpdnmfklmgmfaa
