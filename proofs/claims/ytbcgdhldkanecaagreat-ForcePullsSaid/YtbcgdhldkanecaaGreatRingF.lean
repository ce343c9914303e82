/- Several texts in one. -/
import Derived.Test.YtbcgdhldkanecaaGreatFRefE
import Derived.Test.YtbcgdhldkanecaaGreatRuler
import Derived.Test.YtbcgdhldkanecaaGreatTree
import Derived.Test.YtbcgdhldkanecaaGreatRing
import Derived.Test.YtbcgdhldkanecaaGreatFloat
/- The reference of package force: which body rules a place. Conditions: what lies in memory. -/
namespace Go.Proofs.YtbcgdhldkanecaaGreat
set_option linter.unusedVariables false
set_option linter.unusedSimpArgs false
open Go.RowKit Go.Shelf

def RSpn (p : Sp) (vs : List Value) : Prop := vs = [.int .i64 p.1, .int .i64 p.2]
/-- the state of the loop that gathers the strengths -/
def RuS (w : World) (a : Option Addr) (n c : Nat) (home px py : Int) (A8 Z : Nat) (PS : List Sp) (i : Nat) (sv : Value) (wr : World) : Prop :=
  Up w wr ∧ Box wr w.heap.size #[.slice a n c, .int .i64 home] 24 ∧ Box wr A8 #[.int .i64 (px), .int .i64 (px), .int .i64 (py), .int .i64 (py)] 30 ∧ Z ≤ wr.heap.size ∧ ∃ xs, wr.ownsRow Z 26 2 sv i xs ∧ RowOf 2 RSpn (PS.take i) xs
theorem rspn_cells {W : World} {Z g cap : Nat} {PS : List Sp} {xs : List Value} {n : Nat} (hn : PS.length = n) (ho : W.ownsRow Z 26 2 (.slice (some ⟨g, 0, none⟩) n cap) n xs) (hx : RowOf 2 RSpn PS xs) {k : Nat} (hk : k < n) :
    W.cell? ⟨g, k * 2, none⟩ = some (.int .i64 (PS.getD k (0, 0)).1) ∧ W.cell? ⟨g, k * 2 + 1, none⟩ = some (.int .i64 (PS.getD k (0, 0)).2) := by
  have hp : PS[k]? = some (PS.getD k (0, 0)) := by simp [List.getD, List.getElem?_eq_getElem (show k < PS.length by omega)]
  obtain ⟨vs, h1, _, h3⟩ := hx.cell hp
  unfold RSpn at h1
  subst h1
  exact ⟨(ho.cellAt (k * 2) (by omega)).trans (h3 0 _ rfl), (ho.cellAt (k * 2 + 1) (by omega)).trans (h3 1 _ rfl)⟩

set_option maxRecDepth 100000 in
set_option maxHeartbeats 8000000 in
theorem g_Ruler_in {K : Nat → Prop} {w : World} {a : Option Addr} {n c : Nat} {bs : List Bod} {home : Int} (hl : Bods K w (.slice a n c) bs) (hh : I64 home) (t px py : Int) (he : askedE bs home (0, 0) (0, 0) 0 t (px, px, py, py) = 0) :
    Gives Tryz.prog 33 #[.agg #[.slice a n c, .int .i64 home], .int .i64 t, .agg #[.int .i64 (px), .int .i64 (py)]] w (.tuple #[.int .i64 (rulerP (bs.map fun b => strengthP (pullB t (px, px, py, py) b))).1, .bool (rulerP (bs.map fun b => strengthP (pullB t (px, px, py, py) b))).2]) := by
  obtain ⟨h1, _, ⟨t0, t1⟩, _⟩ := asked_zero he
  obtain ⟨wl1, wl2, _⟩ := worldE_zero h1
  have hpos : 0 < bs.length := List.length_pos_iff.2 wl1
  have hn := (Bods.at hl).1
  have HA := hide (fun W (hu : Up w W) => g_asked (hl.keeps (hu.keeps K)) hh (0, 0) (0, 0) 0 t px px py py)
  rw [he] at HA
  obtain ⟨PS, hPS⟩ : ∃ ps, bs.map (fun b => strengthP (pullB t (px, px, py, py) b)) = ps := ⟨_, rfl⟩
  rw [hPS]
  have hPSl : PS.length = n := by rw [← hPS, hn]; simp
  have KP := hide (fun (i : Nat) (hi : i < n) => show ∃ R : Ar, PS.take i ++ [strengthP R] = PS.take (i + 1) ∧ ∀ W, Up w W → Gives Tryz.prog 43 #[.agg #[.slice a n c, .int .i64 home], .int .i64 i, .int .i64 t, .agg #[.int .i64 (px), .int .i64 (px), .int .i64 (py), .int .i64 (py)]] W (.agg #[.int .i64 R.1, .int .i64 R.2.1, .int .i64 R.2.2.1, .int .i64 R.2.2.2]) from by
    have hib : i < bs.length := by rw [← hn]; exact hi
    refine ⟨pullB t (px, px, py, py) bs[i], ?_, fun W hu => g_one (hl.keeps (hu.keeps K)) hh h1 (List.getElem?_eq_getElem hib) t0 t1 px px py py⟩
    rw [List.take_add_one, ← hPS, List.getElem?_map, List.getElem?_eq_getElem hib]
    rfl)
  have hn8 : n ≤ 8 := by rw [hn]; exact wl2
  have hn0 : 0 < n := by rw [hn]; exact hpos
  obtain ⟨isp, hsi, hsz0, hsz1, hsz2⟩ := info_parts Tryz.infospan
  have HI := hide (And.intro hsi (And.intro hsz0 (And.intro hsz1 hsz2)))
  have HPL := hide hPSl
  have HFIND := hide (fun (k : Nat) => @rulerP_find PS k)
  have HNONE := hide (@rulerP_none PS)
  rw [hPSl] at HFIND HNONE
  obtain ⟨RR, hRR⟩ : ∃ r, rulerP PS = r := ⟨_, rfl⟩
  rw [hRR] at HFIND HNONE ⊢
  clear hl hh he h1 wl1 wl2 hpos hn hPS hPSl hsi hsz0 hsz1 hsz2 hRR
  (unfold Gives; go_enter Tryz.func33, Tryz.ntmps33)
  go_wp2_with fail
  go_at_call 54
  refine (g_at _ _ _).mono ?_
  intro p1
  go_wp2_with fail
  go_at_call 42
  refine (HA.out _ (by repeat (first | with_reducible exact Up.refl _ | with_reducible apply Up.plus | apply Up.ext | apply Up.alloc | apply Up.drew | (refine Up.setCell ?_ (by simp; try omega) _)))).mono ?_
  intro p2
  go_wp2_with fail
  obtain ⟨A8, hA8⟩ : ∃ T, w.heap.size + 1 + 1 + p1.os.size = T := ⟨_, rfl⟩
  rw [hA8]
  refine forgetW (fun V => Up w V ∧ Box V w.heap.size #[.slice a n c, .int .i64 home] 24 ∧ Box V A8 #[.int .i64 (px), .int .i64 (px), .int .i64 (py), .int .i64 (py)] 30) ⟨(by repeat (first | with_reducible exact Up.refl _ | with_reducible apply Up.plus | apply Up.ext | apply Up.alloc | apply Up.drew | (refine Up.setCell ?_ (by simp; try omega) _))), (by repeat (first | exact Box.mk rfl | (refine Box.mk ?_; simp; done) | apply Box.ext | apply Box.drew | apply Box.alloc | apply Box.two1 | (refine Box.other ?_ (by omega) _ _))), by rw [← hA8]; exact (by repeat (first | exact Box.mk rfl | (refine Box.mk ?_; simp; done) | apply Box.ext | apply Box.drew | apply Box.alloc | apply Box.two1 | (refine Box.other ?_ (by omega) _ _)))⟩ ?_
  rintro V ⟨hu, bw, ba⟩
  obtain ⟨Z, hZ⟩ : ∃ Z, V.heap.size = Z := ⟨_, rfl⟩
  have hZA : A8 < Z := by have := ba.lt; omega
  have hZw : w.heap.size < Z := by have := bw.lt; omega
  have hS := hide (show RuS w a n c home px py A8 Z PS 0 (.slice none 0 0) V from ⟨hu, bw, ba, by omega, [], World.ownsRow_nil _ _ _ _, RowOf.nil _ _⟩)
  clear hA8 hu bw ba HA hZ
  go_loopw [9, 10] (fun s9 s10 wr => ∃ i : Nat, s10 = .int .i64 i ∧ i ≤ n ∧ Hid (RuS w a n c home px py A8 Z PS i s9 wr)) (fun _ s _ => n - (intOf s).toNat)
  case atStart => exact ⟨0, by go_num, by omega, hS⟩
  case round =>
    obtain ⟨i, rfl, hi, hJ⟩ := hrel
    clear hS
    obtain ⟨hu, bw, ba, hZ, xs, ho, hr⟩ := hJ.out
    have cw0 := bw.cell 0 rfl
    have cw1 := bw.cell 1 rfl
    have lcw := bw.lt
    by_cases hlt : i < n
    · have hib : decide ((i : Int) < n) = true := by simp; omega
      have hin : decide (i < n) = true := by simp; omega
      obtain ⟨⟨r1, r2, r3, r4⟩, hR, KR⟩ := KP.out i hlt
      have KR1 := hide KR
      have HRn := hide hR
      have ca0 := ba.cell 0 rfl
      have ca1 := ba.cell 1 rfl
      have ca2 := ba.cell 2 rfl
      have ca3 := ba.cell 3 rfl
      have lca := ba.lt
      have HX := hide (And.intro hu (And.intro bw (And.intro ba (And.intro ho hr))))
      clear hJ hu bw ba ho hr KR hR
      go_wp2_with fail
      go_at_call 43
      refine (KR1.out _ HX.out.1).mono ?_
      intro pd
      go_wp2_with fail
      obtain ⟨PW, hPW⟩ : ∃ T, wr.heap.size + pd.os.size = T := ⟨_, rfl⟩
      rw [hPW]
      refine forgetW (fun V => Up wr V ∧ Box V PW #[.int .i64 (r1), .int .i64 (r2), .int .i64 (r3), .int .i64 (r4)] 30) ⟨(by repeat (first | with_reducible exact Up.refl _ | with_reducible apply Up.plus | apply Up.ext | apply Up.alloc | apply Up.drew | (refine Up.setCell ?_ (by simp; try omega) _))), by rw [← hPW]; exact (by repeat (first | exact Box.mk rfl | (refine Box.mk ?_; simp; done) | apply Box.ext | apply Box.drew | apply Box.alloc | apply Box.two1 | (refine Box.other ?_ (by omega) _ _)))⟩ ?_
      rintro V1 ⟨hu1, bp⟩
      have hPZ : wr.heap.size ≤ PW := by omega
      have hoV := ownsRow_kept HX.out.2.2.2.1 (grown_up (grown_refl _ none) hu1) (fun r e => by cases e)
      have HS0 := hide (show Box V1.drew PW #[.int .i64 (r1), .int .i64 (r2), .int .i64 (r3), .int .i64 (r4)] 30 from bp.drew)
      have HV1 := hide (And.intro hu1 (And.intro bp hoV))
      clear hPW hu1 bp hoV cw0 cw1 lcw ca0 ca1 ca2 ca3 lca
      refine wp_region_L (fun W' => Box W' PW #[.int .i64 (r1), .int .i64 (r2), .int .i64 (r3), .int .i64 (r4)] 30) 10 (by kernel_rfl) ?_
      refine anyL_take 0 (v := u9) rfl (by kernel_rfl) (fun _ _ _ h => h) (.inl ⟨rfl, fun W' hW' => by simp [go_sem]⟩) HS0.out ?_
      simp only [Act.put, List.setIfInBounds_toArray, List.set_cons_zero, List.set_cons_succ]
      refine anyL_take 1 (v := (.pointer (some ⟨PW, 0, none⟩))) rfl (by kernel_rfl) (fun _ _ _ h => h) (.inl ⟨rfl, fun W' hW' => by simp [go_sem]⟩) HS0.out ?_
      simp only [Act.put, List.setIfInBounds_toArray, List.set_cons_zero, List.set_cons_succ]
      refine anyL_take 2 (v := (.agg #[.int .i64 r1, .int .i64 r2])) rfl (by kernel_rfl) (fun _ _ _ h => h) (.inl ⟨rfl, fun W' hW' => by have e0 := Box.cell hW' 0 rfl; have e1 := Box.cell hW' 1 rfl; simp [go_sem, e0, e1]⟩) HS0.out ?_
      simp only [Act.put, List.setIfInBounds_toArray, List.set_cons_zero, List.set_cons_succ]
      refine anyL_take 4 (v := (.pointer (some ⟨PW, 2, none⟩))) rfl (by kernel_rfl) (fun _ _ _ h => h) (.inl ⟨rfl, fun W' hW' => by simp [go_sem]⟩) HS0.out ?_
      simp only [Act.put, List.setIfInBounds_toArray, List.set_cons_zero, List.set_cons_succ]
      refine anyL_take 5 (v := (.agg #[.int .i64 r3, .int .i64 r4])) rfl (by kernel_rfl) (fun _ _ _ h => h) (.inl ⟨rfl, fun W' hW' => by have e0 := Box.cell hW' 2 rfl; have e1 := Box.cell hW' 3 rfl; simp [go_sem, e0, e1]⟩) HS0.out ?_
      simp only [Act.put, List.setIfInBounds_toArray, List.set_cons_zero, List.set_cons_succ]
      clear HS0
      refine anyL_one (i := 3) (by kernel_rfl) rfl (fun K HK => ?_)
      go_wp2_with fail
      go_at_call 68
      refine (g_squared2 _ _ _).mono ?_
      intro p3
      go_wp2_with fail
      refine HK.out _ _ (fun _ => (by repeat (first | with_reducible exact HV1.out.2.1 | apply Box.ext | apply Box.drew | apply Box.alloc | (refine Box.other ?_ (by simp; try omega) _ _)))) ?_
      clear HK
      refine anyL_one (i := 6) (by kernel_rfl) rfl (fun K HK => ?_)
      go_wp2_with fail
      go_at_call 68
      refine (g_squared2 _ _ _).mono ?_
      intro p4
      go_wp2_with fail
      refine HK.out _ _ (fun _ => (by repeat (first | with_reducible exact HV1.out.2.1 | apply Box.ext | apply Box.drew | apply Box.alloc | (refine Box.other ?_ (by simp; try omega) _ _)))) ?_
      clear HK
      refine anyL_one (i := 7) (by kernel_rfl) rfl (fun K HK => ?_)
      go_wp2_with fail
      go_at_call 52
      refine (g_sum4 _ _ _ _ _).mono ?_
      intro p5
      rw [show addP ((squareP (r1, r2)).1, (squareP (r1, r2)).2) ((squareP (r3, r4)).1, (squareP (r3, r4)).2) = strengthP (r1, r2, r3, r4) from rfl]
      go_wp2_with fail
      refine HK.out _ _ (fun _ => (by repeat (first | with_reducible exact HV1.out.2.1 | apply Box.ext | apply Box.drew | apply Box.alloc | (refine Box.other ?_ (by simp; try omega) _ _)))) ?_
      clear HK
      refine forgetW (fun U => Up V1 U ∧ Box U PW #[.int .i64 (r1), .int .i64 (r2), .int .i64 (r3), .int .i64 (r4)] 30) ⟨(by repeat (first | with_reducible exact Up.refl _ | with_reducible apply Up.plus | apply Up.ext | apply Up.alloc | apply Up.drew | (refine Up.setCell ?_ (by simp; try omega) _))), (by repeat (first | with_reducible exact HV1.out.2.1 | apply Box.ext | apply Box.drew | apply Box.alloc | (refine Box.other ?_ (by simp; try omega) _ _)))⟩ ?_
      rintro U9 ⟨hu9, b9U⟩
      have HU9 := hide (And.intro hu9 b9U)
      clear hu9 b9U
      refine anyL_one (i := 8) (by kernel_rfl) rfl (fun K HK => ?_)
      go_wp2_with fail
      refine HK.out _ _ (fun _ => HU9.out.2.alloc _) ?_
      clear HK
      refine anyL_one (i := 9) (by kernel_rfl) rfl (fun K HK => ?_)
      have hho : (U9.alloc (.cells #[.int .i64 (strengthP (r1, r2, r3, r4)).1, .int .i64 (strengthP (r1, r2, r3, r4)).2] 26)).ownsRow Z 26 2 u9 i xs :=
        (ownsRow_kept HV1.out.2.2 (grown_up (grown_refl _ none) HU9.out.1) (fun r e => by cases e)).alloc _
      have hlrow : ∀ b, u9.ownBlock = some b → Z ≤ b := fun b e => (hho.lt b e).1
      have hU9l : Z ≤ U9.heap.size := by have := HV1.out.1.below.size; have := HU9.out.1.below.size; omega
      refine wpList_append_lies _ rfl (.tmp 35) (.tmp 43) 108 rfl Z 26 isp _ 2 16 Tryz.underlying108 HI.out.1 HI.out.2.1 HI.out.2.2.1 HI.out.2.2.2 rfl (by decide) u9 i xs rfl hho ⟨U9.heap.size, 0, none⟩ 1 1 [.int .i64 (strengthP (r1, r2, r3, r4)).1, .int .i64 (strengthP (r1, r2, r3, r4)).2] rfl rfl
        (World.news_of_block (heap_new _ _)) (fun u hu => by rcases List.mem_cons.1 hu with rfl | hu <;> (try (obtain rfl := List.mem_singleton.1 hu)) <;> rfl) (by decide) (by unfold maxLen; omega) (by omega) (by simp; omega) _ rfl ?_
      intro gr cap w1 hown hgrow hat hlt1
      have hu1 : Up wr (U9.alloc (.cells #[.int .i64 (strengthP (r1, r2, r3, r4)).1, .int .i64 (strengthP (r1, r2, r3, r4)).2] 26)) := (HV1.out.1.trans HU9.out.1).alloc _
      have huw := HX.out.1.trans hu1
      have hN := hide (show RuS w a n c home px py A8 Z PS (i + 1) (.slice (some ⟨gr, 0, none⟩) (i + 1) cap) w1 from
        ⟨.of_below (huw.below.grown hgrow huw.below.size (fun k e => by have := hlrow k e; omega)), (HX.out.2.1.up hu1).grown hgrow (fun e => by have := hlrow _ e; omega), (HX.out.2.2.1.up hu1).grown hgrow (fun e => by have := hlrow _ e; omega),
          by have := (hown.lt gr rfl).1; have := (hown.lt gr rfl).2; omega, _, hown, by rw [← HRn.out]; exact HX.out.2.2.2.2.snoc (x := strengthP (r1, r2, r3, r4)) rfl rfl⟩)
      have bb2 : Box w1 PW #[.int .i64 (r1), .int .i64 (r2), .int .i64 (r3), .int .i64 (r4)] 30 := (HU9.out.2.alloc _).grown hgrow (fun e => by
        have hc := HU9.out.2
        rcases (ownsRow_kept HV1.out.2.2 (grown_up (grown_refl _ none) HU9.out.1) (fun r e => by cases e)).2 with ⟨rfl, _⟩ | ⟨g', cap', cur', rfl, _, hh, _⟩
        · cases e
        · have e' : g' = PW := by simpa [Value.ownBlock] using e
          rw [e'] at hh
          rw [show U9.heap[PW]? = some (.cells #[.int .i64 (r1), .int .i64 (r2), .int .i64 (r3), .int .i64 (r4)] 30 (0, 0)) from hc] at hh
          simp at hh)
      have HB2 := hide bb2
      clear hho hgrow hown hat hlt1 hu1 huw bb2 hlrow
      go_wp2_with fail
      refine HK.out _ _ (fun _ => HB2.out) ?_
      clear HK
      refine anyL_one (i := 10) (by kernel_rfl) rfl (fun K HK => ?_)
      go_wp2_with fail
      refine HK.out _ _ (fun h => (h rfl).elim) ?_
      clear HK
      refine anyL_done (by kernel_rfl) ?_
      go_wp2
      go_roundw
      case rel => exact ⟨i + 1, by go_num, by omega, hN⟩
      case measure => simp [intOf]; omega
    · have hib : decide ((i : Int) < n) = false := by simp; omega
      have hin : decide (i < n) = false := by simp; omega
      obtain rfl : i = n := by omega
      obtain ⟨g, cap, rfl, hgb, hgl⟩ := ho.form (by omega)
      rw [List.take_of_length_le (by rw [HPL.out]; omega)] at hr
      have hgW := (ho.lt g rfl).2
      have hcells := fun (k : Nat) (hk : k < i) => rspn_cells HPL.out ho hr hk
      obtain ⟨f, hf⟩ : ∃ f : Nat → Sp, (fun k => PS.getD k (0, 0)) = f := ⟨_, rfl⟩
      have hcells' : ∀ (k : Nat), k < i → wr.cell? ⟨g, k * 2, none⟩ = some (.int .i64 (f k).1) ∧ wr.cell? ⟨g, k * 2 + 1, none⟩ = some (.int .i64 (f k).2) := fun k hk => by rw [← hf]; exact hcells k hk
      rw [hf] at HFIND HNONE
      have HGM := hide (show ∀ w2, Up wr w2 → ∀ k, k < i → w2.cell? ⟨g, k * 2, none⟩ = some (.int .i64 (f k).1) ∧ w2.cell? ⟨g, k * 2 + 1, none⟩ = some (.int .i64 (f k).2) from fun w2 hu2 k hk =>
        ⟨(World.cell?_of_block (a := ⟨g, k * 2, none⟩) (hu2.below.block g hgW)).trans (hcells' k hk).1, (World.cell?_of_block (a := ⟨g, k * 2 + 1, none⟩) (hu2.below.block g hgW)).trans (hcells' k hk).2⟩)
      have HU := hide hu
      clear hJ hu bw ba ho hr hcells hcells' hf KP HPL HI hgb hgl
      go_wp2_with fail
      clear cw0 cw1 lcw
      refine forgetW (fun V => Up w V ∧ g < V.heap.size ∧ Hid (∀ w2, Up V w2 → ∀ k, k < i → w2.cell? ⟨g, k * 2, none⟩ = some (.int .i64 (f k).1) ∧ w2.cell? ⟨g, k * 2 + 1, none⟩ = some (.int .i64 (f k).2))) ⟨HU.out, hgW, HGM⟩ ?_
      clear HU HGM hgW
      rintro WA ⟨hU, hgA, HGM⟩
      have HU := hide hU
      clear hU
      go_loopw [12] (fun s12 w2 => ∃ k : Nat, s12 = .int .i64 k ∧ k ≤ i ∧ Hid (Up WA w2 ∧ ∀ j, j < k → rulesF f i j = false)) (fun s _ => i - (intOf s).toNat)
      case atStart => exact ⟨0, by go_num, by omega, hide ⟨Up.refl _, fun j hj => by omega⟩⟩
      case round =>
        obtain ⟨k, rfl, hk, hq⟩ := hrel
        by_cases hlk : k < i
        · have hkb : decide ((k : Int) < i) = true := by simp; omega
          have hkn : decide (k < i) = true := by simp; omega
          go_wp2_with fail
          have hqj := hide hq.out.2
          have hq1 := hq.out.1
          clear hq
          go_loopw [13, 14] (fun s13 s14 w2 => ∃ q : Nat, s14 = .int .i64 q ∧ q ≤ i ∧ s13 = .bool ((List.range q).all fun x => x == k || decide ((f x).2 < (f k).1)) ∧ Hid (Up WA w2)) (fun _ s _ => i - (intOf s).toNat)
          case atStart => exact ⟨0, by go_num, by omega, rfl, hide hq1⟩
          case round =>
            obtain ⟨q, rfl, hq', rfl, hr⟩ := hrel
            clear hq1
            by_cases hlq : q < i
            · have hqb : decide ((q : Int) < i) = true := by simp; omega
              have hqn : decide (q < i) = true := by simp; omega
              obtain ⟨g0, g1⟩ := HGM.out _ hr.out q hlq
              obtain ⟨g2, g3⟩ := HGM.out _ hr.out k hlk
              have lg : g < wr.heap.size := Nat.lt_of_lt_of_le hgA hr.out.below.size
              have HQ := hide (show ((List.range (q + 1)).all fun x => x == k || decide ((f x).2 < (f k).1)) = (((List.range q).all fun x => x == k || decide ((f x).2 < (f k).1)) && (q == k || decide ((f q).2 < (f k).1))) by rw [List.range_succ, List.all_append]; simp)
              generalize ((List.range q).all fun x => x == k || decide ((f x).2 < (f k).1)) = rb at HQ ⊢
              cases rb
              · go_wp2_with fail
                ((first | with_reducible refine wp_region_ext2 (by kernel_rfl) (by kernel_rfl) ?_ | refine wp_region_ext (by kernel_rfl) (by kernel_rfl) ?_); (repeat (go_big_quiet_step (fail))); refine wpQuiet_nil ?_; intro _ hw'; obtain ⟨_, hw''⟩ := hw'; subst hw'')
                go_wp2
                go_roundw
                case rel => exact ⟨q + 1, by go_num, by omega, by rw [HQ.out]; rfl, hide (by repeat (first | with_reducible exact hr.out | with_reducible exact Up.refl _ | apply Up.ext | apply Up.alloc | apply Up.drew | (refine Up.setCell ?_ (by simp [World.setCell]; try omega) _)))⟩
                case measure => simp [intOf]; omega
              · by_cases hqk : q = k
                · have e1 : ((q : Int) == (k : Int)) = true := by simp; omega
                  replace hqk := hide hqk
                  go_wp2_with fail
                  ((first | with_reducible refine wp_region_ext2 (by kernel_rfl) (by kernel_rfl) ?_ | refine wp_region_ext (by kernel_rfl) (by kernel_rfl) ?_); (repeat (go_big_quiet_step (fail))); refine wpQuiet_nil ?_; intro _ hw'; obtain ⟨_, hw''⟩ := hw'; subst hw'')
                  go_wp2
                  go_roundw
                  case rel => exact ⟨q + 1, by go_num, by omega, by rw [HQ.out]; simp [hqk.out], hide (by repeat (first | with_reducible exact hr.out | with_reducible exact Up.refl _ | apply Up.ext | apply Up.alloc | apply Up.drew | (refine Up.setCell ?_ (by simp [World.setCell]; try omega) _)))⟩
                  case measure => simp [intOf]; omega
                · have e1 : ((q : Int) == (k : Int)) = false := by simp; omega
                  replace hqk := hide hqk
                  go_wp2_with fail
                  ((first | with_reducible refine wp_region_ext2 (by kernel_rfl) (by kernel_rfl) ?_ | refine wp_region_ext (by kernel_rfl) (by kernel_rfl) ?_); (repeat (go_big_quiet_step (fail))); refine wpQuiet_nil ?_; intro _ hw'; obtain ⟨_, hw''⟩ := hw'; subst hw'')
                  go_wp2
                  go_roundw
                  case rel => exact ⟨q + 1, by go_num, by omega, by rw [HQ.out]; simp [hqk.out], hide (by repeat (first | with_reducible exact hr.out | with_reducible exact Up.refl _ | apply Up.ext | apply Up.alloc | apply Up.drew | (refine Up.setCell ?_ (by simp [World.setCell]; try omega) _)))⟩
                  case measure => simp [intOf]; omega
            · have hqb : decide ((q : Int) < i) = false := by simp; omega
              have hqn : decide (q < i) = false := by simp; omega
              have hqm : q = i := by omega
              have HRL := hide (show ((List.range q).all fun x => x == k || decide ((f x).2 < (f k).1)) = rulesF f i k by rw [hqm]; rfl)
              generalize ((List.range q).all fun x => x == k || decide ((f x).2 < (f k).1)) = rb at HRL ⊢
              cases rb
              · go_wp2
                go_roundw
                case rel => exact ⟨k + 1, by go_num, by omega, hide ⟨hr.out, fun j hj => by
                  rcases Nat.lt_or_ge j k with h | h
                  · exact hqj.out j h
                  · obtain rfl : j = k := by omega
                    exact HRL.out.symm⟩⟩
                case measure => simp [intOf]; omega
              · have hres := HFIND.out k hlk hqj.out HRL.out.symm
                subst hres
                go_wp2
                refine bodyPost_give ((by repeat (first | with_reducible exact HU.out.trans hr.out | with_reducible exact Up.refl _ | apply Up.ext | apply Up.alloc | apply Up.drew | (refine Up.setCell ?_ (by simp [World.setCell]; try omega) _)))) rfl ⟨_, (by simp [results, Tryz.results33, go_sem]; rfl), ?_⟩
                rfl
        · have hkb : decide ((k : Int) < i) = false := by simp; omega
          have hkn : decide (k < i) = false := by simp; omega
          have hkm : k = i := by omega
          have hres := HNONE.out fun j hj => hq.out.2 j (by omega)
          subst hres
          go_wp2
          refine bodyPost_give ((by repeat (first | with_reducible exact HU.out.trans hq.out.1 | with_reducible exact Up.refl _ | apply Up.ext | apply Up.alloc | apply Up.drew | (refine Up.setCell ?_ (by simp [World.setCell]; try omega) _)))) rfl ⟨_, (by simp [results, Tryz.results33, go_sem]; rfl), ?_⟩
          rfl

theorem g_Ruler {K : Nat → Prop} {w : World} {a : Option Addr} {n c : Nat} {bs : List Bod} {home : Int} (hl : Bods K w (.slice a n c) bs) (hh : I64 home) (t px py : Int) :
    Gives Tryz.prog 33 #[.agg #[.slice a n c, .int .i64 home], .int .i64 t, .agg #[.int .i64 (px), .int .i64 (py)]] w (.tuple #[.int .i64 (rulerV bs home t px py).1, .bool (rulerV bs home t px py).2]) := by
  unfold rulerV
  by_cases he : askedE bs home (0, 0) (0, 0) 0 t (px, px, py, py) = 0
  · rw [if_pos he]
    exact g_Ruler_in hl hh t px py he
  · rw [if_neg he]
    have heb : (askedE bs home (0, 0) (0, 0) 0 t (px, px, py, py) != 0) = true := by simp [he]
    have HA := hide (fun W (hu : Up w W) => g_asked (hl.keeps (hu.keeps K)) hh (0, 0) (0, 0) 0 t px px py py)
    generalize askedE bs home (0, 0) (0, 0) 0 t (px, px, py, py) = e at *
    clear hl he
    (unfold Gives; go_enter Tryz.func33, Tryz.ntmps33)
    go_wp2_with (first | (go_at_call 54; refine (g_at _ _ _).mono ?_; intro _) | (go_at_call 42; refine (HA.out _ (by repeat (first | with_reducible exact Up.refl _ | with_reducible apply Up.plus | apply Up.ext | apply Up.alloc | apply Up.drew | (refine Up.setCell ?_ (by simp; try omega) _)))).mono ?_; intro _))
    refine bodyPost_give ((by repeat (first | with_reducible exact Up.refl _ | with_reducible apply Up.plus | apply Up.ext | apply Up.alloc | apply Up.drew | (refine Up.setCell ?_ (by simp; try omega) _)))) rfl ⟨_, (by simp [results, Tryz.results33, go_sem]; rfl), ?_⟩
    rfl
end Go.Proofs.YtbcgdhldkanecaaGreat

/- The statements' source of numbers in regions that draw their order; areas and places made of numbers. Conditions: how often it was asked, and that what came in lies as it lay. -/
namespace Go.Proofs.YtbcgdhldkanecaaGreat
set_option linter.unusedVariables false
set_option linter.unusedSimpArgs false
open Go.RowKit

/-- v is handed back, the ring has been asked at most k times -/
def RPost (W : World) (B : Nat) (t k : Int) (R : Value → Prop) (e : Ending) (W' : World) : Prop := ∃ (v : Value) (t' : Int) (p : Ext), e = .returned v ∧ R v ∧ 0 ≤ t' ∧ t' ≤ t + k ∧ W' = ext (W.setCell ⟨B, 1, none⟩ (.int .i64 t')) p
theorem RPost.mk {W : World} {B : Nat} {t k t' : Int} {R : Value → Prop} {v : Value} {W' : World} (hR : R v) (h1 : 0 ≤ t') (h2 : t' ≤ t + k) (u : Up (W.setCell ⟨B, 1, none⟩ (.int .i64 t')) W') : RPost W B t k R (.returned v) W' :=
  let ⟨p, hp⟩ := u; ⟨v, t', p, rfl, hR, h1, h2, hp⟩
/-- the contract of a function that asks the ring at most k times -/
def RingGives (f : FuncId) (args : Array Value) (w : World) (sl : Value) (B : Nat) (k : Int) (R : Value → Prop) : Prop :=
  ∀ t W, Up w W → Box W B #[sl, .int .i64 t] 78 → 0 ≤ t → t + k ≤ 100000 → Calls Tryz.prog f args W (RPost W B t k R)
theorem RingGives.mono {f : FuncId} {args : Array Value} {w : World} {sl : Value} {B : Nat} {k : Int} {R R' : Value → Prop} (h : RingGives f args w sl B k R) (hR : ∀ v, R v → R' v) : RingGives f args w sl B k R' :=
  fun t W hu hb t0 t1 => (h t W hu hb t0 t1).mono fun _ _ ⟨v, t', p, he, hv, h1, h2, hw⟩ => ⟨v, t', p, he, hR v hv, h1, h2, hw⟩

def RInt (lo hi : Int) (v : Value) : Prop := ∃ x : Int, lo ≤ x ∧ x ≤ hi ∧ v = .int .i64 x
def RSpan (about wide : Int) (v : Value) : Prop := ∃ x y : Int, about - wide ≤ x ∧ x ≤ about ∧ x ≤ y ∧ y ≤ x + wide ∧ v = .agg #[.int .i64 x, .int .i64 y]

theorem next_r {w : World} {sl : Value} (hN : Nums w sl) {B : Nat} (hB : w.heap.size ≤ B) {m : Int} (m0 : 1 ≤ m) (m1 : m ≤ 9223372036854775807) :
    RingGives 11 #[.pointer (some ⟨B, 0, none⟩), .int .i64 m] w sl B 1 (RInt 0 (m - 1)) := fun t W hu hb t0 t1 =>
  (next_any w sl hN B t m W hu hb hB t0 (by omega) m0 m1).mono fun _ _ ⟨x, p, x0, x1, he, hw⟩ => ⟨_, _, p, he, ⟨x, x0, x1, rfl⟩, by omega, by omega, hw⟩
theorem range_r {w : World} {sl : Value} (hN : Nums w sl) {B : Nat} (hB : w.heap.size ≤ B) {lo hi : Int} (l0 : -1000000000000 ≤ lo) (l1 : lo ≤ hi) (l2 : hi ≤ 1000000000000) :
    RingGives 12 #[.pointer (some ⟨B, 0, none⟩), .int .i64 lo, .int .i64 hi] w sl B 1 (RInt lo hi) := fun t W hu hb t0 t1 =>
  (range_any w sl hN B t lo hi W hu hb hB t0 (by omega) l0 l1 l2).mono fun _ _ ⟨x, p, x0, x1, he, hw⟩ => ⟨_, _, p, he, ⟨x, x0, x1, rfl⟩, by omega, by omega, hw⟩
theorem spanof_r {w : World} {sl : Value} (hN : Nums w sl) {B : Nat} (hB : w.heap.size ≤ B) {about wide : Int} (a0 : -1000000 ≤ about) (a1 : about ≤ 1000000) (w0 : 0 ≤ wide) (w1 : wide ≤ 1000000) :
    RingGives 38 #[.pointer (some ⟨B, 0, none⟩), .int .i64 about, .int .i64 wide] w sl B 2 (RSpan about wide) := fun t W hu hb t0 t1 =>
  (spanof_any w sl hN B t about wide W hu hb hB t0 (by omega) a0 a1 w0 w1).mono fun _ _ ⟨x, y, p, x0, x1, x2, x3, he, hw⟩ => ⟨_, _, p, he, ⟨x, y, x0, x1, x2, x3, rfl⟩, by omega, by omega, hw⟩

/-- the worlds in which the ring has been asked, and that have grown -/
def ringBase (w : World) (B : Nat) (x : Int × Ext) : World := ext (w.setCell ⟨B, 1, none⟩ (.int .i64 x.1)) x.2
def RingAt (w : World) (B : Nat) (n : Int) (W : World) : Prop := ∃ (t : Int) (p : Ext), 0 ≤ t ∧ t ≤ n ∧ W = ext (w.setCell ⟨B, 1, none⟩ (.int .i64 t)) p
theorem cls_ring (w : World) (B : Nat) (n : Int) : Cls (fun W => ∃ x, W = ringBase w B x) (RingAt w B n) :=
  ⟨fun _ ⟨t, p, _, _, h⟩ => ⟨(t, p), h⟩, fun _ q ⟨t, p, h0, h1, h⟩ => ⟨t, p.plus q, h0, h1, by rw [h, ext_ext]⟩⟩
theorem set_same {w : World} {b o : Nat} {c : Array Value} {t : TypeId} {v : Value} (h : Box w b c t) (hv : c[o]? = some v) : w.setCell ⟨b, o, none⟩ v = w := by
  unfold World.setCell
  have hm : ∀ f : Obj → Obj, f (.cells c t (0, 0)) = .cells c t (0, 0) → w.heap.modify b f = w.heap := fun f hf => by
    apply Array.ext_getElem?
    intro k
    simp only [Array.getElem?_modify]
    split
    · rename_i hk
      subst hk
      rw [show w.heap[b]? = some (.cells c t (0, 0)) from h]
      simp [hf]
    · rfl
  simp only
  rw [hm]
  simp only
  have : c.setIfInBounds o v = c := by
    apply Array.ext_getElem?
    intro k
    by_cases hk : o = k
    · subst hk
      obtain ⟨hlt, he⟩ := Array.getElem?_eq_some_iff.1 hv
      simp [hlt, he]
    · simp [Array.getElem?_setIfInBounds_ne hk]
  simp [this]
theorem ringAt_drew {w : World} {B : Nat} {sl : Value} {t n : Int} {T : TypeId} (h : Box w B #[sl, .int .i64 t] T) (h0 : 0 ≤ t) (h1 : t ≤ n) : RingAt w B n w.drew :=
  ⟨t, ⟨w.drawn + 1, #[]⟩, h0, h1, by rw [set_same h (o := 1) (v := .int .i64 t) rfl]; exact ext_one w⟩

/-- a call that asks the ring, in such a region -/
theorem ring_call {f : FuncId} {args : Array Value} {w wz : World} {sl : Value} {B B0 : Nat} {k t0 n : Int} {R : Value → Prop} (hK : RingGives f args w sl B k R) (hu : Up w wz) (hb : Box wz B #[sl, .int .i64 t0] 78) (hB : w.heap.size ≤ B) (hB0 : B < B0) (hn : n + k ≤ 100000) :
    ∀ W, RingAt wz B n W → Calls Tryz.prog f args W (fun e W' => ∃ v, e = .returned v ∧ R v ∧ RingAt wz B (n + k) W' ∧ Stays B0 W W') := fun W ⟨t, p, h0, h1, hW⟩ => by
  subst hW
  refine (hK t _ ((hu.setCell (q := ⟨B, 1, none⟩) hB _).ext p) ((hb.two1 (.int .i64 t)).ext p) h0 (by omega)).mono ?_
  rintro e W' ⟨v, t', p', he, hv, h2, h3, rfl⟩
  refine ⟨v, he, hv, ⟨t', p.plus p', by omega, by omega, ?_⟩, ?_⟩
  · rw [ext_setCell _ _ _ _ _ (by simpa using hb.lt), set_again, ext_ext]
  · refine ⟨by rw [ext_size]; simp, fun b c T hbb hx => Box.ext (Box.other hx (by omega) 1 _) p'⟩

theorem RingAt.box {w : World} {B : Nat} {n : Int} {W : World} (h : RingAt w B n W) {sl : Value} {t : Int} {T : TypeId} (hb : Box w B #[sl, .int .i64 t] T) : ∃ t' : Int, 0 ≤ t' ∧ t' ≤ n ∧ Box W B #[sl, .int .i64 t'] T :=
  let ⟨t', p, h0, h1, hW⟩ := h; ⟨t', h0, h1, hW ▸ ((hb.two1 (.int .i64 t')).ext p)⟩
theorem RingAt.other {w : World} {B : Nat} {n : Int} {W : World} (h : RingAt w B n W) {b : Nat} {c : Array Value} {T : TypeId} (hb : Box w b c T) (hne : b ≠ B) : Box W b c T :=
  let ⟨_, p, _, _, hW⟩ := h; hW ▸ ((hb.other hne 1 _).ext p)
theorem RingAt.up {w0 w : World} {B : Nat} {n : Int} {W : World} (h : RingAt w B n W) (hu : Up w0 w) (hB : w0.heap.size ≤ B) : Up w0 W :=
  let ⟨_, p, _, _, hW⟩ := h; hW ▸ ((hu.setCell (q := ⟨B, 1, none⟩) hB _).ext p)
theorem RingAt.size {w : World} {B : Nat} {n : Int} {W : World} (h : RingAt w B n W) : w.heap.size ≤ W.heap.size :=
  let ⟨_, p, _, _, hW⟩ := h; by rw [hW, ext_size]; simp

def RArea (most wide : Int) (v : Value) : Prop := ∃ x0 x1 y0 y1 : Int, (-most - wide ≤ x0 ∧ x0 ≤ x1 ∧ x1 ≤ most + wide) ∧ (-most - wide ≤ y0 ∧ y0 ≤ y1 ∧ y1 ≤ most + wide) ∧ v = .agg #[.int .i64 x0, .int .i64 x1, .int .i64 y0, .int .i64 y1]
theorem areaof_r {w : World} {sl : Value} (hN : Nums w sl) {B : Nat} (hB : w.heap.size ≤ B) {most wide : Int} (a0 : 0 ≤ most) (a1 : most ≤ 100000) (w0 : 0 ≤ wide) (w1 : wide ≤ 100000) :
    RingGives 13 #[.pointer (some ⟨B, 0, none⟩), .int .i64 most, .int .i64 wide] w sl B 6 (RArea most wide) := fun t W hu hb t0 t1 => by
  have K := hide (fun t W hu hb t0 t1 => range_any w sl hN B t (-most) most W hu hb hB t0 t1 (by omega) (by omega) (by omega))
  have KS := hide (fun t about W hu hb t0 t1 a0 a1 => spanof_any w sl hN B t about wide W hu hb hB t0 t1 a0 a1 w0 (by omega))
  have HU := hide (And.intro hu hb)
  have lB := hb.lt
  clear hN hu hb
  go_enter Tryz.func13, Tryz.ntmps13
  go_wp2_with (first | (go_at_call 12; refine (K.out _ _ (by repeat (first | exact HU.out.1 | apply Up.ext | apply Up.alloc | (refine Up.setCell ?_ (by simp; try omega) _))) (by repeat (first | exact HU.out.2 | apply Box.ext | apply Box.alloc | apply Box.two1 | (refine Box.other ?_ (by omega) _ _))) (by omega) (by omega)).mono ?_; rintro _ _ ⟨x, p, x0, x1, rfl, rfl⟩) | (go_at_call 38; refine (KS.out _ _ _ (by repeat (first | exact HU.out.1 | apply Up.ext | apply Up.alloc | (refine Up.setCell ?_ (by simp; try omega) _))) (by repeat (first | exact HU.out.2 | apply Box.ext | apply Box.alloc | apply Box.two1 | (refine Box.other ?_ (by omega) _ _))) (by omega) (by omega) (by omega) (by omega)).mono ?_; rintro _ _ ⟨u, v, p, u0, u1, u2, u3, rfl, rfl⟩))
  rename_i X1 P2 X01 X11 U1 V1 P1 U01 U11 U21 U31 P0
  exact bodyPost_ret (v := .agg #[.int .i64 U1, .int .i64 V1, .int .i64 u, .int .i64 v]) (by simp [results, Tryz.results13, go_sem]) rfl (RPost.mk (t' := t + 1 + 2 + 1 + 2) ⟨_, _, _, _, ⟨by omega, by omega, by omega⟩, ⟨by omega, by omega, by omega⟩, rfl⟩ (by omega) (by omega) (by repeat (first | with_reducible exact Up.refl _ | apply Up.ext | apply Up.alloc)))

def RVec (a b c d : Int) (v : Value) : Prop := ∃ x y : Int, a ≤ x ∧ x ≤ b ∧ c ≤ y ∧ y ≤ d ∧ v = .agg #[.int .i64 x, .int .i64 y]
end Go.Proofs.YtbcgdhldkanecaaGreat

