/- Which skies are valid; a station by its number; where a station is: the program's. Conditions: what lies in memory. -/
import Derived.Test.YtnaiaodnnmhdkaaGreatSkyB
import Derived.Test.YtnaiaodnnmhdkaaGreatFloat
import Derived.Test.YtnaiaodnnmhdkaaGreatWatchQ
namespace Go.Proofs.YtnaiaodnnmhdkaaGreat
set_option linter.unusedVariables false
set_option linter.unusedSimpArgs false
open Go.RowKit Go.Shelf

/-- the world at a call under a new name -/
theorem forgetK {P : Program} {f : FuncId} {args : Array Value} {w : World} {R : Ending → World → Prop} (S : World → Prop) (hS : S w) (h : ∀ w', S w' → Calls P f args w' R) : Calls P f args w R := h w hS
theorem st_at {l : List (Int × Int × Int)} {k : Nat} {p : Int × Int × Int} (h : l[k]? = some p) (last : Int) : stationsE last (l.drop k) = if p.1 ≤ last then 11 else if nearV 1048576 (p.2.1, p.2.2) = false then 2 else stationsE p.1 (l.drop (k + 1)) := by
  obtain ⟨hk, e⟩ := List.getElem?_eq_some_iff.1 h
  rw [List.drop_eq_getElem_cons hk, e]
  obtain ⟨p0, p1, p2⟩ := p
  rfl
theorem ca_at {l : List (Int × Int × Int)} {k : Nat} {p : Int × Int × Int} (h : l[k]? = some p) (last : Int) : catalogsE last (l.drop k) = if p.1 ≤ last then 11 else if p.2.1 < -500000 ∨ p.2.2 < p.2.1 ∨ 500000 < p.2.2 then 2 else catalogsE p.1 (l.drop (k + 1)) := by
  obtain ⟨hk, e⟩ := List.getElem?_eq_some_iff.1 h
  rw [List.drop_eq_getElem_cons hk, e]
  obtain ⟨p0, p1, p2⟩ := p
  rfl
set_option maxRecDepth 100000 in
set_option maxHeartbeats 4000000 in
theorem skcheck_any {K : Nat → Prop} {w : World} {a sa ca : Option Addr} {n c sn sc cn cc : Nat} {s : SkyD} (hb : Bods K w (.slice a n c) s.bodies) (hh : I64 s.home) (hs : Tris K w (.slice sa sn sc) s.stations) (hc : Tris K w (.slice ca cn cc) s.catalogs) :
    Gives Tryz.prog 60 #[.agg #[.slice a n c, .int .i64 s.home, .slice sa sn sc, .slice ca cn cc]] w (.int .i64 (skyE s)) := by
  have HC := hide (fun W (hu : Up w W) => skworld_any (hb.keeps (hu.keeps K)) hh)
  have hsn := (Tris.at hs).1
  have hcn := (Tris.at hc).1
  have hsm := (Tris.at hs).2.1
  have hcm := (Tris.at hc).2.1
  have HS := hide hs
  have HT := hide hc
  generalize hH : s.home = home at *
  by_cases hw : worldE s.bodies home = 0
  rotate_left
  · have hE : skyE s = worldE s.bodies home := by unfold skyE; rw [hH, if_neg hw]
    rw [hE]
    have hwb : (worldE s.bodies home != 0) = true := by simp [hw]
    generalize worldE s.bodies home = e at *
    clear hb hh hs hc hE hsn hcn hw
    (unfold Gives; go_enter Tryz.func60, Tryz.ntmps60)
    go_wp2_with (go_at_call 124; refine (HC.out _ (by repeat (first | with_reducible exact Up.refl _ | with_reducible apply Up.plus | apply Up.ext | apply Up.alloc | apply Up.drew | (refine Up.setCell ?_ (by simp; try omega) _)))).mono ?_; intro _)
    go_ret
    exact ⟨rfl, (by repeat (first | with_reducible exact Up.refl _ | with_reducible apply Up.plus | apply Up.ext | apply Up.alloc | apply Up.drew | (refine Up.setCell ?_ (by simp; try omega) _)))⟩
  · rw [hw] at HC
    by_cases h16 : 16 < sn
    · have hE : skyE s = 8 := by unfold skyE; rw [hH, if_pos hw, if_pos (by omega)]
      rw [hE]
      have hb16 : decide ((16 : Int) < sn) = true := by simp; omega
      have hb16n : decide (16 < sn) = true := by simp; omega
      clear hb hh hs hc hE hsn hcn hw HS HT
      (unfold Gives; go_enter Tryz.func60, Tryz.ntmps60)
      go_wp2_with (go_at_call 124; refine (HC.out _ (by repeat (first | with_reducible exact Up.refl _ | with_reducible apply Up.plus | apply Up.ext | apply Up.alloc | apply Up.drew | (refine Up.setCell ?_ (by simp; try omega) _)))).mono ?_; intro _)
      go_ret
      exact ⟨rfl, (by repeat (first | with_reducible exact Up.refl _ | with_reducible apply Up.plus | apply Up.ext | apply Up.alloc | apply Up.drew | (refine Up.setCell ?_ (by simp; try omega) _)))⟩
    · have hE : skyE s = if stationsE 0 s.stations = 0 then (if 8 < s.catalogs.length then 8 else catalogsE 0 s.catalogs) else stationsE 0 s.stations := by unfold skyE; rw [hH, if_pos hw, if_neg (by omega)]
      have HE := hide hE
      have HN := hide (And.intro hsn hcn)
      have hb16 : decide ((16 : Int) < sn) = false := by simp; omega
      have hb16n : decide (16 < sn) = false := by simp; omega
      clear hb hh hs hc hE hsn hcn hw
      (unfold Gives; go_enter Tryz.func60, Tryz.ntmps60)
      go_wp2_with (go_at_call 124; refine (HC.out _ (by repeat (first | with_reducible exact Up.refl _ | with_reducible apply Up.plus | apply Up.ext | apply Up.alloc | apply Up.drew | (refine Up.setCell ?_ (by simp; try omega) _)))).mono ?_; intro _)
      refine forgetW (fun V => Up w V ∧ Box V w.heap.size #[.slice a n c, .int .i64 home, .slice sa sn sc, .slice ca cn cc] 28) ⟨(by repeat (first | with_reducible exact Up.refl _ | with_reducible apply Up.plus | apply Up.ext | apply Up.alloc | apply Up.drew | (refine Up.setCell ?_ (by simp; try omega) _))), (by repeat (first | exact Box.mk rfl | (refine Box.mk ?_; simp; done) | apply Box.ext | apply Box.drew | apply Box.alloc | apply Box.two1 | (refine Box.other ?_ (by omega) _ _)))⟩ ?_
      rintro V0 ⟨hu0, bx⟩
      have H0 := hide (show (Up w V0 ∧ Box V0 w.heap.size #[.slice a n c, .int .i64 home, .slice sa sn sc, .slice ca cn cc] 28) ∧ stationsE 0 s.stations = stationsE 0 (s.stations.drop 0) from ⟨⟨hu0, bx⟩, rfl⟩)
      clear hu0 bx HC
      go_loopw [4, 22] (fun s4 s22 wr => ∃ (k : Nat) (last : Int), s4 = .int .i64 last ∧ s22 = .int .i64 k ∧ k ≤ sn ∧ Hid ((Up w wr ∧ Box wr w.heap.size #[.slice a n c, .int .i64 home, .slice sa sn sc, .slice ca cn cc] 28) ∧ stationsE 0 s.stations = stationsE last (s.stations.drop k))) (fun _ q _ => sn - (intOf q).toNat)
      case atStart => exact ⟨0, 0, by go_num, by go_num, by omega, H0⟩
      case round =>
        obtain ⟨k, last, rfl, rfl, hk, hJ⟩ := hrel
        clear H0
        by_cases hlt : k < sn
        · have hkb : decide ((k : Int) < sn) = true := by simp; omega
          have hkn : decide (k < sn) = true := by simp; omega
          obtain ⟨b0, o0, p, ea, _, hb0, hp, hI, d0, d1, d2⟩ := (Tris.at (HS.out.keeps (hJ.out.1.1.keeps K))).2.2 k hlt
          subst ea
          have HP := hide (st_at hp last)
          have HI := hide hI
          clear hp hI
          obtain ⟨p0, p1, p2⟩ := p
          dsimp only at d0 d1 d2 HP
          by_cases h1 : p0 ≤ last
          · have h1b : decide (p0 ≤ last) = true := by simpa using h1
            have hR := HP.out
            rw [if_pos h1] at hR
            have HR := hide hR
            clear hR h1 HP
            go_wp2
            go_ret
            refine ⟨ret_int ?_, (by repeat (first | with_reducible exact hJ.out.1.1 | with_reducible exact Up.refl _ | apply Up.ext | apply Up.alloc | apply Up.drew | (refine Up.setCell ?_ (by simp [World.setCell]; try omega) _)))⟩
            have := hJ.out.2
            rw [HR.out] at this
            rw [HE.out, if_neg (by omega), this]
          · have h1b : decide (p0 ≤ last) = false := by simpa using h1
            obtain ⟨N, hN⟩ : ∃ N, nearV 1048576 (p1, p2) = N := ⟨_, rfl⟩
            have HNR := hide (fun W => sknear_any p1 p2 1048576 (by omega) (by omega) W)
            have hR := HP.out
            rw [if_neg h1, hN] at hR
            rw [hN] at HNR
            have HR := hide hR
            clear hR h1 HP hN
            cases N
            · go_wp2_with (go_at_call 87; refine (HNR.out _).mono ?_; intro _)
              go_ret
              refine ⟨ret_int ?_, (by repeat (first | with_reducible exact hJ.out.1.1 | with_reducible exact Up.refl _ | apply Up.ext | apply Up.alloc | apply Up.drew | (refine Up.setCell ?_ (by simp [World.setCell]; try omega) _)))⟩
              have := hJ.out.2
              rw [HR.out, if_pos trivial] at this
              rw [HE.out, if_neg (by omega), this]
            · go_wp2_with (go_at_call 87; refine (HNR.out _).mono ?_; intro _)
              go_roundw
              case rel => exact ⟨k + 1, p0, by go_num, by go_num, by omega, hide ⟨⟨(by repeat (first | with_reducible exact hJ.out.1.1 | with_reducible exact Up.refl _ | apply Up.ext | apply Up.alloc | apply Up.drew | (refine Up.setCell ?_ (by simp [World.setCell]; try omega) _))), (by repeat (first | with_reducible exact hJ.out.1.2 | apply Box.ext | apply Box.drew | apply Box.alloc | (refine Box.other ?_ (by simp; try omega) _ _)))⟩, by rw [hJ.out.2, HR.out, if_neg (by simp)]⟩⟩
              case measure => simp [intOf]; omega
        · have hkb : decide ((k : Int) < sn) = false := by simp; omega
          have hkn : decide (k < sn) = false := by simp; omega
          have hst : stationsE 0 s.stations = 0 := by
            rw [hJ.out.2, List.drop_eq_nil_of_le (by have := HN.out.1; omega)]
            rfl
          have hE := HE.out
          rw [if_pos hst] at hE
          have x0 := hJ.out.1.2.cell 3 rfl
          have lx := hJ.out.1.2.lt
          by_cases h8 : 8 < cn
          · have h8b : decide ((8 : Int) < cn) = true := by simp; omega
            have h8n : decide (8 < cn) = true := by simp; omega
            rw [if_pos (by have := HN.out.2; omega)] at hE
            have HE2 := hide hE
            clear hE hst h8
            go_wp2
            go_ret
            exact ⟨ret_int (by rw [HE2.out]), (by repeat (first | with_reducible exact hJ.out.1.1 | with_reducible exact Up.refl _ | apply Up.ext | apply Up.alloc | apply Up.drew | (refine Up.setCell ?_ (by simp [World.setCell]; try omega) _)))⟩
          · have h8b : decide ((8 : Int) < cn) = false := by simp; omega
            have h8n : decide (8 < cn) = false := by simp; omega
            rw [if_neg (by have := HN.out.2; omega)] at hE
            have HE2 := hide hE
            have HU := hide hJ.out.1.1
            have HB := hide hJ.out.1.2
            clear hE hst h8 hJ HE HS
            go_wp2
            refine forgetW (fun V => Up w V) ((by repeat (first | with_reducible exact HU.out | with_reducible exact Up.refl _ | apply Up.ext | apply Up.alloc | apply Up.drew | (refine Up.setCell ?_ (by simp [World.setCell]; try omega) _)))) ?_
            intro V1 hu1
            have H1 := hide (show Up w V1 ∧ catalogsE 0 s.catalogs = catalogsE 0 (s.catalogs.drop 0) from ⟨hu1, rfl⟩)
            clear hu1 x0 lx HU HB
            go_loopw [4, 46] (fun s4 s46 w2 => ∃ (q : Nat) (last : Int), s4 = .int .i64 last ∧ s46 = .int .i64 q ∧ q ≤ cn ∧ Hid (Up w w2 ∧ catalogsE 0 s.catalogs = catalogsE last (s.catalogs.drop q))) (fun _ q _ => cn - (intOf q).toNat)
            case atStart => exact ⟨0, 0, by go_num, by go_num, by omega, H1⟩
            case round =>
              obtain ⟨q, last, rfl, rfl, hq, hJ⟩ := hrel
              clear H1
              by_cases hlq : q < cn
              · have hqb : decide ((q : Int) < cn) = true := by simp; omega
                have hqn : decide (q < cn) = true := by simp; omega
                obtain ⟨b0, o0, p, ea, _, hb0, hp, hI, d0, d1, d2⟩ := (Tris.at (HT.out.keeps (hJ.out.1.keeps K))).2.2 q hlq
                subst ea
                have HP := hide (ca_at hp last)
                have HI := hide hI
                clear hp hI
                obtain ⟨p0, p1, p2⟩ := p
                dsimp only at d0 d1 d2 HP
                by_cases h1 : p0 ≤ last
                · have h1b : decide (p0 ≤ last) = true := by simpa using h1
                  have hR := HP.out
                  rw [if_pos h1] at hR
                  have HR := hide hR
                  clear hR h1 HP
                  go_wp2
                  go_ret
                  refine ⟨ret_int ?_, (by repeat (first | with_reducible exact hJ.out.1 | with_reducible exact Up.refl _ | apply Up.ext | apply Up.alloc | apply Up.drew | (refine Up.setCell ?_ (by simp [World.setCell]; try omega) _)))⟩
                  rw [HE2.out, hJ.out.2, HR.out]
                · have h1b : decide (p0 ≤ last) = false := by simpa using h1
                  by_cases h2 : p1 < -500000 ∨ p2 < p1 ∨ 500000 < p2
                  · have hR := HP.out
                    rw [if_neg h1, if_pos h2] at hR
                    have HR := hide hR
                    clear hR h1 HP
                    have HF := hide (show Hid (skyE s = 2) from hide (by rw [HE2.out, hJ.out.2, HR.out]))
                    by_cases h3 : p1 < -500000
                    · have h3b : decide (p1 < -500000) = true := by simpa using h3
                      clear h2 h3
                      go_wp2
                      go_ret
                      exact ⟨ret_int (by rw [HF.out.out]), (by repeat (first | with_reducible exact hJ.out.1 | with_reducible exact Up.refl _ | apply Up.ext | apply Up.alloc | apply Up.drew | (refine Up.setCell ?_ (by simp [World.setCell]; try omega) _)))⟩
                    · have h3b : decide (p1 < -500000) = false := by simpa using h3
                      by_cases h4 : p2 < p1
                      · have h4b : decide (p2 < p1) = true := by simpa using h4
                        clear h2 h3 h4
                        go_wp2
                        go_ret
                        exact ⟨ret_int (by rw [HF.out.out]), (by repeat (first | with_reducible exact hJ.out.1 | with_reducible exact Up.refl _ | apply Up.ext | apply Up.alloc | apply Up.drew | (refine Up.setCell ?_ (by simp [World.setCell]; try omega) _)))⟩
                      · have h4b : decide (p2 < p1) = false := by simpa using h4
                        have h5b : decide (500000 < p2) = true := by simp; omega
                        clear h2 h3 h4
                        go_wp2
                        go_ret
                        exact ⟨ret_int (by rw [HF.out.out]), (by repeat (first | with_reducible exact hJ.out.1 | with_reducible exact Up.refl _ | apply Up.ext | apply Up.alloc | apply Up.drew | (refine Up.setCell ?_ (by simp [World.setCell]; try omega) _)))⟩
                  · have hR := HP.out
                    rw [if_neg h1, if_neg h2] at hR
                    have HR := hide hR
                    have h3b : decide (p1 < -500000) = false := by simp; omega
                    have h4b : decide (p2 < p1) = false := by simp; omega
                    have h5b : decide (500000 < p2) = false := by simp; omega
                    clear hR h1 h2 HP
                    go_wp2
                    go_roundw
                    case rel => exact ⟨q + 1, p0, by go_num, by go_num, by omega, hide ⟨(by repeat (first | with_reducible exact hJ.out.1 | with_reducible exact Up.refl _ | apply Up.ext | apply Up.alloc | apply Up.drew | (refine Up.setCell ?_ (by simp [World.setCell]; try omega) _))), by rw [hJ.out.2, HR.out]⟩⟩
                    case measure => simp [intOf]; omega
              · have hqb : decide ((q : Int) < cn) = false := by simp; omega
                have hqn : decide (q < cn) = false := by simp; omega
                go_wp2
                go_ret
                refine ⟨ret_int ?_, (by repeat (first | with_reducible exact hJ.out.1 | with_reducible exact Up.refl _ | apply Up.ext | apply Up.alloc | apply Up.drew | (refine Up.setCell ?_ (by simp [World.setCell]; try omega) _)))⟩
                rw [HE2.out, hJ.out.2, List.drop_eq_nil_of_le (by have := HN.out.2; omega)]
                rfl
end Go.Proofs.YtnaiaodnnmhdkaaGreat
