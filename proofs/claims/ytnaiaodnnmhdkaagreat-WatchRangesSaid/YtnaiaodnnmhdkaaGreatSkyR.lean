/- Which worlds are valid, and where a body is at a tick: the reference's. Conditions: what lies in memory. -/
import Derived.Test.YtnaiaodnnmhdkaaGreatSkyB
namespace Go.Proofs.YtnaiaodnnmhdkaaGreat
set_option linter.unusedVariables false
set_option linter.unusedSimpArgs false
open Go.RowKit Go.Shelf

theorem sbetween_any (n lo hi : Int) (w : World) : Gives Tryz.prog 127 #[.int .i64 n, .int .i64 lo, .int .i64 hi] w (.bool (withinB n lo hi)) := by
  (unfold Gives; go_enter Tryz.func127, Tryz.ntmps127)
  go_wp2
  all_goals go_ret
  all_goals refine ⟨ret_bool ?_, Up.refl _⟩
  · rename_i h; simp [withinB, h]
  · rename_i h; simp [withinB]; omega
theorem snear_any (x y : Int) (w : World) : Gives Tryz.prog 69 #[.agg #[.int .i64 x, .int .i64 y]] w (.bool (nearV 33554432 (x, y))) := by
  (unfold Gives; go_enter Tryz.func69, Tryz.ntmps69)
  go_wp2_with (go_at_call 127; refine (sbetween_any _ _ _ _).mono ?_; intro _)
  all_goals (go_ret; refine ⟨ret_bool ?_, (by repeat (first | with_reducible exact Up.refl _ | with_reducible apply Up.plus | apply Up.ext | apply Up.alloc | apply Up.drew | (refine Up.setCell ?_ (by simp; try omega) _)))⟩)
  all_goals (go_light; first | (simp_all [nearV]; done) | (simp_all [nearV]; omega) | (simp_all [nearV]; repeat' split; all_goals (first | (simp_all; done) | omega | (simp_all; omega))))

theorem all_none {l : List (Int × Int)} (h : noneYet (fun p => !nearV 33554432 p) l l.length) : l.all (nearV 33554432) = true := by
  rw [List.all_eq_true]
  intro x hx
  obtain ⟨i, hi, rfl⟩ := List.getElem_of_mem hx
  have := h i _ hi (List.getElem?_eq_getElem hi)
  simpa using this
theorem all_found {l : List (Int × Int)} {k : Nat} {p : Int × Int} (hp : l[k]? = some p) (h : nearV 33554432 p = false) : l.all (nearV 33554432) = false := by
  rw [List.all_eq_false]
  exact ⟨p, List.mem_of_getElem? hp, by rw [h]; simp⟩

theorem sbody_any {K : Nat → Prop} {w : World} {b : Bod} {ta : Option Addr} {tn tc : Nat} (ht : Vecs K w (.slice ta tn tc) b.track) :
    Gives Tryz.prog 164 #[.agg #[.int .i64 b.mu, .int .i64 b.radius, .slice ta tn tc]] w (.int .i64 (bodyE b)) := by
  have hn := (Vecs.at ht).1
  have hm := (Vecs.at ht).2.1
  have hE : bodyE b = if (withinB b.mu 0 1125899906842624 && withinB b.radius 0 1048576) = false then 2
    else if tn = 0 then 6 else if 4096 < tn then 8 else if b.track.all (nearV 33554432) = false then 2 else 0 := by unfold bodyE; rw [← hn]
  rw [hE]
  clear hE
  by_cases h1 : (withinB b.mu 0 1125899906842624 && withinB b.radius 0 1048576) = false
  · rw [if_pos h1]
    clear ht hn
    rw [Bool.and_eq_false_iff] at h1
    rcases h1 with h1 | h1
    · (unfold Gives; go_enter Tryz.func164, Tryz.ntmps164)
      go_wp2_with (go_at_call 127; refine (sbetween_any _ _ _ _).mono ?_; intro _)
      go_ret
      exact ⟨rfl, (by repeat (first | with_reducible exact Up.refl _ | with_reducible apply Up.plus | apply Up.ext | apply Up.alloc | apply Up.drew | (refine Up.setCell ?_ (by simp; try omega) _)))⟩
    · (unfold Gives; go_enter Tryz.func164, Tryz.ntmps164)
      go_wp2_with (go_at_call 127; refine (sbetween_any _ _ _ _).mono ?_; intro _)
      all_goals go_ret
      all_goals exact ⟨rfl, (by repeat (first | with_reducible exact Up.refl _ | with_reducible apply Up.plus | apply Up.ext | apply Up.alloc | apply Up.drew | (refine Up.setCell ?_ (by simp; try omega) _)))⟩
  rw [if_neg h1]
  simp only [Bool.not_eq_false, Bool.and_eq_true] at h1
  obtain ⟨h1, h2⟩ := h1
  by_cases h0 : tn = 0
  · rw [if_pos h0]
    subst h0
    clear ht hn
    (unfold Gives; go_enter Tryz.func164, Tryz.ntmps164)
    go_wp2_with (go_at_call 127; refine (sbetween_any _ _ _ _).mono ?_; intro _)
    go_ret
    exact ⟨rfl, (by repeat (first | with_reducible exact Up.refl _ | with_reducible apply Up.plus | apply Up.ext | apply Up.alloc | apply Up.drew | (refine Up.setCell ?_ (by simp; try omega) _)))⟩
  rw [if_neg h0]
  have h0b : ((tn : Int) == 0) = false := by simp; omega
  by_cases h4 : 4096 < tn
  · rw [if_pos h4]
    clear ht hn
    (unfold Gives; go_enter Tryz.func164, Tryz.ntmps164)
    go_wp2_with (go_at_call 127; refine (sbetween_any _ _ _ _).mono ?_; intro _)
    go_ret
    exact ⟨rfl, (by repeat (first | with_reducible exact Up.refl _ | with_reducible apply Up.plus | apply Up.ext | apply Up.alloc | apply Up.drew | (refine Up.setCell ?_ (by simp; try omega) _)))⟩
  rw [if_neg h4]
  have HL := hide (And.intro ht hn)
  obtain ⟨V, hV⟩ : ∃ V : Int, (if b.track.all (nearV 33554432) = false then 2 else 0) = V := ⟨_, rfl⟩
  rw [hV]
  have HV := hide hV
  clear ht hn hV
  (unfold Gives; go_enter Tryz.func164, Tryz.ntmps164)
  go_wp2_with (go_at_call 127; refine (sbetween_any _ _ _ _).mono ?_; intro _)
  go_loopw [3] (fun s wr => ∃ k : Nat, k ≤ tn ∧ s = .int .i64 k ∧ Up (w.alloc (.cells #[.int .i64 b.mu, .int .i64 b.radius, .slice ta tn tc] 153)) wr ∧ Hid (noneYet (fun p => !nearV 33554432 p) b.track k)) (fun s _ => tn - (intOf s).toNat)
  case atStart => exact ⟨0, by omega, rfl, (by repeat (first | with_reducible exact Up.refl _ | with_reducible apply Up.plus | apply Up.ext | apply Up.alloc | apply Up.drew | (refine Up.setCell ?_ (by simp; try omega) _))), hide (fun i p hi _ => by omega)⟩
  case round =>
    obtain ⟨k, hk, rfl, hu, hb⟩ := hrel
    have hu2 : Up w wr := ((Up.refl w).alloc _).trans hu
    have hbx : Box wr w.heap.size #[.int .i64 b.mu, .int .i64 b.radius, .slice ta tn tc] 153 := (Box.mk rfl).up hu
    have c2 := hbx.cell 2 rfl
    by_cases hlt : k < tn
    · obtain ⟨b', o, p, rfl, hKb, hbw, hp, hpp, hc0, hc1⟩ := (Vecs.at (HL.out.1.keeps (hu2.keeps K))).2.2 k hlt
      have hkb : decide ((k : Int) < tn) = true := by simp; omega
      have HP := hide (And.intro hp (And.intro hu hu2))
      obtain ⟨p1, p2⟩ := p
      dsimp only at hc0 hc1
      clear hp hu hu2 hpp hKb hbx
      rcases hF : nearV 33554432 (p1, p2) with _ | _
      · go_wp2_with (go_at_call 69; refine (snear_any _ _ _).mono ?_; intro _)
        go_ret
        refine ⟨ret_int ?_, HP.out.2.2.trans (by repeat (first | with_reducible exact Up.refl _ | with_reducible apply Up.plus | apply Up.ext | apply Up.alloc | apply Up.drew | (refine Up.setCell ?_ (by simp; try omega) _)))⟩
        rw [← HV.out, if_pos (all_found HP.out.1 hF)]
      · go_wp2_with (go_at_call 69; refine (snear_any _ _ _).mono ?_; intro _)
        refine ⟨⟨k + 1, by omega, by go_num, HP.out.2.1.trans (by repeat (first | with_reducible exact Up.refl _ | with_reducible apply Up.plus | apply Up.ext | apply Up.alloc | apply Up.drew | (refine Up.setCell ?_ (by simp; try omega) _))), hide (hb.out.succ HP.out.1 (by rw [hF]; rfl))⟩, by simp [intOf]; omega⟩
    · have hkb : decide ((k : Int) < tn) = false := by simp; omega
      obtain rfl : k = tn := by omega
      have HU := hide hu2
      clear hu hu2 hbx
      go_wp2
      go_ret
      refine ⟨ret_int ?_, HU.out.trans (by repeat (first | with_reducible exact Up.refl _ | with_reducible apply Up.plus | apply Up.ext | apply Up.alloc | apply Up.drew | (refine Up.setCell ?_ (by simp; try omega) _)))⟩
      rw [← HV.out, if_neg (by rw [all_none (by rw [← HL.out.2]; exact hb.out)]; simp)]

theorem sworld_any {K : Nat → Prop} {w : World} {a : Option Addr} {n c : Nat} {l : List Bod} {home : Int} (hl : Bods K w (.slice a n c) l) (hh : I64 home) :
    Gives Tryz.prog 126 #[.agg #[.slice a n c, .int .i64 home]] w (.int .i64 (worldE l home)) := by
  have hn := (Bods.at hl).1
  have hm := (Bods.at hl).2.1
  obtain ⟨hh0, hh1⟩ := hh
  by_cases z0 : n = 0
  · have hE : worldE l home = 6 := by unfold worldE; rw [if_pos (by omega)]
    rw [hE]
    clear hE hl hn
    subst z0
    (unfold Gives; go_enter Tryz.func126, Tryz.ntmps126)
    go_wp2
    go_ret
    exact ⟨rfl, (by repeat (first | with_reducible exact Up.refl _ | with_reducible apply Up.plus | apply Up.ext | apply Up.alloc | apply Up.drew | (refine Up.setCell ?_ (by simp; try omega) _)))⟩
  by_cases z8 : 8 < n
  · have hE : worldE l home = 8 := by unfold worldE; rw [if_neg (by omega), if_pos (by omega)]
    rw [hE]
    clear hE hl hn
    have hb0 : ((n : Int) == 0) = false := by simp; omega
    (unfold Gives; go_enter Tryz.func126, Tryz.ntmps126)
    go_wp2
    go_ret
    exact ⟨rfl, (by repeat (first | with_reducible exact Up.refl _ | with_reducible apply Up.plus | apply Up.ext | apply Up.alloc | apply Up.drew | (refine Up.setCell ?_ (by simp; try omega) _)))⟩
  have hE : worldE l home = if firstE bodyE l = 0 then (if home < 0 ∨ (n : Int) ≤ home then 7 else 0) else firstE bodyE l := by unfold worldE; rw [if_neg (by omega), if_neg (by omega), hn]
  have HE := hide hE
  have HN := hide hn
  have HL := hide hl
  have hb0 : ((n : Int) == 0) = false := by simp; omega
  clear hE hn hl
  (unfold Gives; go_enter Tryz.func126, Tryz.ntmps126)
  go_wp2
  go_loopw [3] (fun s wr => ∃ k : Nat, k ≤ n ∧ s = .int .i64 k ∧ Up (w.alloc (.cells #[.slice a n c, .int .i64 home] 24)) wr ∧ Hid (noneYet (fun x => bodyE x != 0) l k)) (fun s _ => n - (intOf s).toNat)
  case atStart => exact ⟨0, by omega, rfl, Up.refl _, hide (fun i p hi _ => by omega)⟩
  case round =>
    obtain ⟨k, hk, rfl, hu, hb⟩ := hrel
    have hu2 : Up w wr := ((Up.refl w).alloc _).trans hu
    have hbx : Box wr w.heap.size #[.slice a n c, .int .i64 home] 24 := (Box.mk rfl).up hu
    have c0 := hbx.cell 0 rfl
    have c1 := hbx.cell 1 rfl
    by_cases hlt : k < n
    · obtain ⟨b, o, p, ta, tn, tc, rfl, hKb, hbw, hp, hpp, hc0, hc1, hc2, ht⟩ := (Bods.at (HL.out.keeps (hu2.keeps K))).2.2 k hlt
      have hkb : decide ((k : Int) < n) = true := by simp; omega
      have HP := hide (And.intro hp (And.intro hu hu2))
      have HT := hide ht
      clear hp hu hu2 hpp hKb ht hbx
      by_cases hF : bodyE p = 0
      · have hF' : (bodyE p != 0) = false := by simp [hF]
        have HS := hide hF
        clear hF
        go_wp2_with (go_at_call 164; refine (sbody_any (HT.out.keeps (Up.keeps (by repeat (first | with_reducible exact Up.refl _ | with_reducible apply Up.plus | apply Up.ext | apply Up.alloc | apply Up.drew | (refine Up.setCell ?_ (by simp; try omega) _))) K))).mono ?_; intro _)
        refine ⟨⟨k + 1, by omega, by go_num, HP.out.2.1.trans (by repeat (first | with_reducible exact Up.refl _ | with_reducible apply Up.plus | apply Up.ext | apply Up.alloc | apply Up.drew | (refine Up.setCell ?_ (by simp; try omega) _))), hide (hb.out.succ HP.out.1 (by simpa using HS.out))⟩, by simp [intOf]; omega⟩
      · have hF' : (bodyE p != 0) = true := by simp [hF]
        have HS := hide hF
        clear hF
        go_wp2_with (go_at_call 164; refine (sbody_any (HT.out.keeps (Up.keeps (by repeat (first | with_reducible exact Up.refl _ | with_reducible apply Up.plus | apply Up.ext | apply Up.alloc | apply Up.drew | (refine Up.setCell ?_ (by simp; try omega) _))) K))).mono ?_; intro _)
        go_ret
        refine ⟨ret_int ?_, HP.out.2.2.trans (by repeat (first | with_reducible exact Up.refl _ | with_reducible apply Up.plus | apply Up.ext | apply Up.alloc | apply Up.drew | (refine Up.setCell ?_ (by simp; try omega) _)))⟩
        rw [HE.out, firstE_found hb.out HP.out.1 HS.out, if_neg HS.out]
    · have hkb : decide ((k : Int) < n) = false := by simp; omega
      obtain rfl : k = n := by omega
      have hE2 : worldE l home = if home < 0 ∨ (k : Int) ≤ home then 7 else 0 := by rw [HE.out, firstE_none (by rw [← HN.out]; exact hb.out), if_pos rfl]
      have HE2 := hide hE2
      have HU := hide hu2
      clear hu hu2 hbx hE2
      go_wp2
      all_goals (go_ret; refine ⟨ret_int ?_, HU.out.trans (by repeat (first | with_reducible exact Up.refl _ | with_reducible apply Up.plus | apply Up.ext | apply Up.alloc | apply Up.drew | (refine Up.setCell ?_ (by simp; try omega) _)))⟩; rw [HE2.out])
      all_goals (go_light; simp_all)

/-- the place of body j of a valid world -/
theorem sat_any {K : Nat → Prop} {w : World} {a : Option Addr} {n c j : Nat} {l : List Bod} {home t : Int} {p : Bod} (hl : Bods K w (.slice a n c) l) (hp : l[j]? = some p) (hb : bodyE p = 0) (t0 : 0 ≤ t) (t1 : t ≤ 9223372036854775807) :
    Gives Tryz.prog 172 #[.agg #[.slice a n c, .int .i64 home], .int .i64 j, .int .i64 t] w (.agg #[.int .i64 (placeV p t).1, .int .i64 (placeV p t).2]) := by
  have hn := (Bods.at hl).1
  have hm := (Bods.at hl).2.1
  have hjn : j < n := by rw [hn]; exact (List.getElem?_eq_some_iff.1 hp).1
  obtain ⟨b, o, p', ta, tn, tc, rfl, hKb, hbw, hp', hpp, hc0, hc1, hc2, ht⟩ := (Bods.at hl).2.2 j hjn
  rw [hp] at hp'
  cases hp'
  have hbb := bodyE_zero hb
  have htn := (Vecs.at ht).1
  have htm := (Vecs.at ht).2.1
  obtain ⟨i, hi, hin⟩ : ∃ i : Nat, t % (tn : Int) = i ∧ i < tn := by
    have h1 := Int.emod_nonneg t (show (tn : Int) ≠ 0 by omega)
    have h2 := Int.emod_lt_of_pos t (show (0 : Int) < tn by omega)
    obtain ⟨i, hi⟩ := Int.eq_ofNat_of_zero_le h1
    exact ⟨i, hi, by omega⟩
  obtain ⟨tb, to, q, rfl, hKt, htw, hq, hqq, hd0, hd1⟩ := (Vecs.at ht).2.2 i hin
  have hv : placeV p t = q := by unfold placeV; rw [← htn, hi]; simp [List.getD, hq]
  rw [hv]
  have i0 : (0 : Int) ≤ (i : Int) := by omega
  have i1 : (i : Int) < tn := by omega
  have j0 : (0 : Int) ≤ (j : Int) := by omega
  have j1 : (j : Int) < n := by omega
  have htp : 0 < tn := by omega
  clear hl hn hp hbb htn ht hq hqq hv hpp hKb hKt hb
  (unfold Gives; go_enter Tryz.func172, Tryz.ntmps172)
  go_wp2
  all_goals (refine bodyPost_give (by repeat (first | with_reducible exact Up.refl _ | with_reducible apply Up.plus | apply Up.ext | apply Up.alloc | apply Up.drew | (refine Up.setCell ?_ (by simp; try omega) _))) rfl ⟨_, (by simp [results, Tryz.results172, go_sem]; rfl), ?_⟩)
  all_goals rfl

theorem sAt_any {K : Nat → Prop} {w : World} {a : Option Addr} {n c : Nat} {l : List Bod} {home : Int} (hl : Bods K w (.slice a n c) l) (hh : I64 home) (i t : Int) :
    Gives Tryz.prog 136 #[.agg #[.slice a n c, .int .i64 home], .int .i64 i, .int .i64 t] w (.agg #[.int .i64 (atW l home i t).1, .int .i64 (atW l home i t).2]) := by
  have hn := (Bods.at hl).1
  have hm := (Bods.at hl).2.1
  have HL := hide hl
  have HC := hide (fun W (hu : Up w W) => sworld_any (hl.keeps (hu.keeps K)) hh)
  by_cases hv : worldE l home = 0 ∧ 0 ≤ i ∧ i < l.length ∧ withinB t 0 1073741824 = true
  · have hE : atW l home i t = placeV (l.getD i.toNat ⟨0, 0, []⟩) t := by unfold atW; rw [if_pos hv]
    rw [hE]
    obtain ⟨h1, h2, h3, h4⟩ := hv
    obtain ⟨j, rfl⟩ := Int.eq_ofNat_of_zero_le h2
    have hp : l[j]? = some l[j] := List.getElem?_eq_getElem (by omega)
    have hpv : l.getD (j : Int).toNat ⟨0, 0, []⟩ = l[j] := by simp [List.getD, hp]
    rw [hpv]
    have HT := hide (fun W (hu : Up w W) => sat_any (home := home) (t := t) (hl.keeps (hu.keeps K)) hp ((worldE_zero h1).2.2.1 _ (List.mem_of_getElem? hp)) (by simp [withinB] at h4; omega) (by simp [withinB] at h4; omega))
    generalize placeV l[j] t = P at *
    rw [h1] at HC
    have hjn : (j : Int) < n := by omega
    have hjb : decide ((n : Int) ≤ j) = false := by simp; omega
    have hj0 : decide ((j : Int) < 0) = false := by simp
    clear hE hl hn hp h1 h3 hpv HL
    (unfold Gives; go_enter Tryz.func136, Tryz.ntmps136)
    go_wp2_with (first | (go_at_call 126; refine (HC.out _ (by repeat (first | with_reducible exact Up.refl _ | with_reducible apply Up.plus | apply Up.ext | apply Up.alloc | apply Up.drew | (refine Up.setCell ?_ (by simp; try omega) _)))).mono ?_; intro _) | (go_at_call 127; refine (sbetween_any _ _ _ _).mono ?_; intro _) | (go_at_call 172; refine (HT.out _ (by repeat (first | with_reducible exact Up.refl _ | with_reducible apply Up.plus | apply Up.ext | apply Up.alloc | apply Up.drew | (refine Up.setCell ?_ (by simp; try omega) _)))).mono ?_; intro _))
    all_goals (refine bodyPost_give (by repeat (first | with_reducible exact Up.refl _ | with_reducible apply Up.plus | apply Up.ext | apply Up.alloc | apply Up.drew | (refine Up.setCell ?_ (by simp; try omega) _))) rfl ⟨_, (by simp [results, Tryz.results136, go_sem]; rfl), ?_⟩)
    all_goals rfl
  · have hE : atW l home i t = (0, 0) := by unfold atW; rw [if_neg hv]
    rw [hE]
    rw [← hn] at hv
    by_cases h1 : worldE l home = 0
    · have hv2 : ¬ (0 ≤ i ∧ i < (n : Int) ∧ withinB t 0 1073741824 = true) := fun h => hv ⟨h1, h⟩
      rw [h1] at HC
      obtain ⟨T, hT⟩ : ∃ T, withinB t 0 1073741824 = T := ⟨_, rfl⟩
      have HW := hide (fun W => sbetween_any t 0 1073741824 W)
      rw [hT] at HW hv2
      clear hv hE hl hn h1 hT HL
      by_cases i0 : i < 0
      · clear hv2
        (unfold Gives; go_enter Tryz.func136, Tryz.ntmps136)
        go_wp2_with (first | (go_at_call 126; refine (HC.out _ (by repeat (first | with_reducible exact Up.refl _ | with_reducible apply Up.plus | apply Up.ext | apply Up.alloc | apply Up.drew | (refine Up.setCell ?_ (by simp; try omega) _)))).mono ?_; intro _) | (go_at_call 127; refine (HW.out _).mono ?_; intro _))
        all_goals (refine bodyPost_give (by repeat (first | with_reducible exact Up.refl _ | with_reducible apply Up.plus | apply Up.ext | apply Up.alloc | apply Up.drew | (refine Up.setCell ?_ (by simp; try omega) _))) rfl ⟨_, (by simp [results, Tryz.results136, go_sem]; rfl), ?_⟩)
        all_goals rfl
      by_cases i1 : (n : Int) ≤ i
      · clear hv2
        (unfold Gives; go_enter Tryz.func136, Tryz.ntmps136)
        go_wp2_with (first | (go_at_call 126; refine (HC.out _ (by repeat (first | with_reducible exact Up.refl _ | with_reducible apply Up.plus | apply Up.ext | apply Up.alloc | apply Up.drew | (refine Up.setCell ?_ (by simp; try omega) _)))).mono ?_; intro _) | (go_at_call 127; refine (HW.out _).mono ?_; intro _))
        all_goals (refine bodyPost_give (by repeat (first | with_reducible exact Up.refl _ | with_reducible apply Up.plus | apply Up.ext | apply Up.alloc | apply Up.drew | (refine Up.setCell ?_ (by simp; try omega) _))) rfl ⟨_, (by simp [results, Tryz.results136, go_sem]; rfl), ?_⟩)
        all_goals rfl
      obtain rfl : T = false := by
        cases T
        · rfl
        · exact absurd ⟨by omega, by omega, rfl⟩ hv2
      clear hv2
      (unfold Gives; go_enter Tryz.func136, Tryz.ntmps136)
      go_wp2_with (first | (go_at_call 126; refine (HC.out _ (by repeat (first | with_reducible exact Up.refl _ | with_reducible apply Up.plus | apply Up.ext | apply Up.alloc | apply Up.drew | (refine Up.setCell ?_ (by simp; try omega) _)))).mono ?_; intro _) | (go_at_call 127; refine (HW.out _).mono ?_; intro _))
      all_goals (refine bodyPost_give (by repeat (first | with_reducible exact Up.refl _ | with_reducible apply Up.plus | apply Up.ext | apply Up.alloc | apply Up.drew | (refine Up.setCell ?_ (by simp; try omega) _))) rfl ⟨_, (by simp [results, Tryz.results136, go_sem]; rfl), ?_⟩)
      all_goals rfl
    · have h1b : (worldE l home != 0) = true := by simp [h1]
      clear hv hE hl hn h1 HL
      (unfold Gives; go_enter Tryz.func136, Tryz.ntmps136)
      go_wp2_with (first | (go_at_call 126; refine (HC.out _ (by repeat (first | with_reducible exact Up.refl _ | with_reducible apply Up.plus | apply Up.ext | apply Up.alloc | apply Up.drew | (refine Up.setCell ?_ (by simp; try omega) _)))).mono ?_; intro _) | (go_at_call 127; refine (sbetween_any _ _ _ _).mono ?_; intro _))
      all_goals (refine bodyPost_give (by repeat (first | with_reducible exact Up.refl _ | with_reducible apply Up.plus | apply Up.ext | apply Up.alloc | apply Up.drew | (refine Up.setCell ?_ (by simp; try omega) _))) rfl ⟨_, (by simp [results, Tryz.results136, go_sem]; rfl), ?_⟩)
      all_goals rfl
end Go.Proofs.YtnaiaodnnmhdkaaGreat
