/- Several texts in one. -/
import Derived.Test.YtnaiaodnnmhdkaaGreatWatchI
import Derived.Test.YtnaiaodnnmhdkaaGreatSkyP
/- Package watch: whether a place is in the field; the view of an area. Conditions: what lies in memory. -/
namespace Go.Proofs.YtnaiaodnnmhdkaaGreat
set_option linter.unusedVariables false
set_option linter.unusedSimpArgs false
open Go.RowKit Go.Shelf

/-- a sky, and where its lists lie -/
structure SkyL (K : Nat → Prop) (w : World) (a : Option Addr) (n c : Nat) (sa : Option Addr) (sn sc : Nat) (ca : Option Addr) (cn cc : Nat) (s : SkyD) : Prop where
  b : Bods K w (.slice a n c) s.bodies
  h : I64 s.home
  st : Tris K w (.slice sa sn sc) s.stations
  ca : Tris K w (.slice ca cn cc) s.catalogs
theorem SkyL.up {K : Nat → Prop} {w w' : World} {a : Option Addr} {n c : Nat} {sa : Option Addr} {sn sc : Nat} {ca : Option Addr} {cn cc : Nat} {s : SkyD} (h : SkyL K w a n c sa sn sc ca cn cc s) (hu : Up w w') : SkyL K w' a n c sa sn sc ca cn cc s :=
  ⟨h.b.keeps (hu.keeps K), h.h, h.st.keeps (hu.keeps K), h.ca.keeps (hu.keeps K)⟩
theorem wview_k {k : KndD} {a : Ar4} (hk : KBd k) (ha : ABd a) (w : World) : Gives Tryz.prog 73 #[kndV k, .agg #[.int .i64 (a.1), .int .i64 (a.2.1), .int .i64 (a.2.2.1), .int .i64 (a.2.2.2)]] w (.agg (viewA (viewK k a))) := by
  unfold kndV
  cases hs : k.sc with
  | true => rw [if_pos rfl]; exact wview_s hk ha hs w
  | false => rw [if_neg (by simp)]; exact wview_r hk ha hs w
set_option maxRecDepth 100000 in
set_option maxHeartbeats 4000000 in
theorem wField_any {K : Nat → Prop} {w : World} {a sa ca : Option Addr} {n c sn sc cn cc : Nat} {s : SkyD} (hL : SkyL K w a n c sa sn sc ca cn cc s) (o : OffD) (p : Int × Int) : Gives Tryz.prog 18 #[.agg #[.slice a n c, .int .i64 s.home, .slice sa sn sc, .slice ca cn cc], .agg (offA o), .agg #[.int .i64 (p.1), .int .i64 (p.2)]] w (.bool (fieldV s o p)) := by
  have HC := hide (fun W (hu : Up w W) => wcheck_any (hL.up hu).b hL.h (hL.up hu).st (hL.up hu).ca o)
  have HP := hide (fun W => wplace_any p.1 p.2 W)
  unfold fieldV
  by_cases he : offE s o = 0
  rotate_left
  · rw [decide_eq_false he, Bool.false_and]
    have heb : (offE s o == 0) = false := by simpa using he
    generalize offE s o = e at *
    generalize s.home = home at *
    clear hL he HP
    obtain ⟨p1, p2⟩ := p
    dsimp only
    (unfold Gives; go_enter Tryz.func18, Tryz.ntmps18)
    go_wp2_with fail
    refine forgetW (fun V => Up w V ∧ Box V w.heap.size #[.slice a n c, .int .i64 home, .slice sa sn sc, .slice ca cn cc] 28 ∧ Box V (w.heap.size + 1) (offA o) 32 ∧ Box V (w.heap.size + 1 + 1) #[.int .i64 (p1), .int .i64 (p2)] 30) ⟨(by repeat (first | with_reducible exact Up.refl _ | with_reducible apply Up.plus | apply Up.ext | apply Up.alloc | apply Up.drew | (refine Up.setCell ?_ (by simp; try omega) _))), (by repeat (first | exact Box.mk rfl | (refine Box.mk ?_; simp; done) | apply Box.ext | apply Box.drew | apply Box.alloc | apply Box.two1 | (refine Box.other ?_ (by omega) _ _))), (by repeat (first | exact Box.mk rfl | (refine Box.mk ?_; simp; done) | apply Box.ext | apply Box.drew | apply Box.alloc | apply Box.two1 | (refine Box.other ?_ (by omega) _ _))), (by repeat (first | exact Box.mk rfl | (refine Box.mk ?_; simp; done) | apply Box.ext | apply Box.drew | apply Box.alloc | apply Box.two1 | (refine Box.other ?_ (by omega) _ _)))⟩ ?_
    rintro V ⟨hu, bs, bo, bp⟩
    have s0 := bs.cell 0 rfl
    have s1 := bs.cell 1 rfl
    have s2 := bs.cell 2 rfl
    have s3 := bs.cell 3 rfl
    have ls := bs.lt
    have f0 := bo.cell 0 rfl
    have f1 := bo.cell 1 rfl
    have f2 := bo.cell 2 rfl
    have f3 := bo.cell 3 rfl
    have f4 := bo.cell 4 rfl
    have f5 := bo.cell 5 rfl
    have f6 := bo.cell 6 rfl
    have f7 := bo.cell 7 rfl
    have f8 := bo.cell 8 rfl
    have f9 := bo.cell 9 rfl
    have f10 := bo.cell 10 rfl
    have lf := bo.lt
    have g0 := bp.cell 0 rfl
    have g1 := bp.cell 1 rfl
    have lg := bp.lt
    have HB := hide hu
    clear hu bs bo bp
    ((first | with_reducible refine wp_region_ext2 (by kernel_rfl) (by kernel_rfl) ?_ | refine wp_region_ext (by kernel_rfl) (by kernel_rfl) ?_); (repeat (go_big_quiet_step ((go_at_call 16; with_reducible exact Gives.inRegion (HC.out _ (HB.out.ext _)))))); refine wpQuiet_nil ?_; intro _ hw'; obtain ⟨_, hw''⟩ := hw'; subst hw'')
    go_wp2
    go_ret
    exact ⟨rfl, (by repeat (first | with_reducible exact HB.out | with_reducible exact Up.refl _ | apply Up.ext | apply Up.alloc | apply Up.drew | (refine Up.setCell ?_ (by simp [World.setCell]; try omega) _)))⟩
  have HO := hide (fun W (hu : Up w W) => wof_any (hL.up hu).b hL.h (hL.up hu).st (hL.up hu).ca he)
  have hk := kbd_of he
  rw [decide_eq_true he, Bool.true_and]
  rw [he] at HC
  have hp : nearV 33554432 (p.1, p.2) = true → PBd p := fun h => (nearV_iff _ _).1 h
  rw [show nearV 33554432 p = nearV 33554432 (p.1, p.2) from rfl]
  by_cases hN : nearV 33554432 (p.1, p.2) = true
  rotate_left
  · rw [show nearV 33554432 (p.1, p.2) = false by simpa using hN, Bool.false_and]
    rw [show nearV 33554432 (p.1, p.2) = false by simpa using hN] at HP
    generalize s.home = home at *
    clear hL he hk hp hN HO
    obtain ⟨p1, p2⟩ := p
    dsimp only at *
    (unfold Gives; go_enter Tryz.func18, Tryz.ntmps18)
    go_wp2_with fail
    refine forgetW (fun V => Up w V ∧ Box V w.heap.size #[.slice a n c, .int .i64 home, .slice sa sn sc, .slice ca cn cc] 28 ∧ Box V (w.heap.size + 1) (offA o) 32 ∧ Box V (w.heap.size + 1 + 1) #[.int .i64 (p1), .int .i64 (p2)] 30) ⟨(by repeat (first | with_reducible exact Up.refl _ | with_reducible apply Up.plus | apply Up.ext | apply Up.alloc | apply Up.drew | (refine Up.setCell ?_ (by simp; try omega) _))), (by repeat (first | exact Box.mk rfl | (refine Box.mk ?_; simp; done) | apply Box.ext | apply Box.drew | apply Box.alloc | apply Box.two1 | (refine Box.other ?_ (by omega) _ _))), (by repeat (first | exact Box.mk rfl | (refine Box.mk ?_; simp; done) | apply Box.ext | apply Box.drew | apply Box.alloc | apply Box.two1 | (refine Box.other ?_ (by omega) _ _))), (by repeat (first | exact Box.mk rfl | (refine Box.mk ?_; simp; done) | apply Box.ext | apply Box.drew | apply Box.alloc | apply Box.two1 | (refine Box.other ?_ (by omega) _ _)))⟩ ?_
    rintro V ⟨hu, bs, bo, bp⟩
    have s0 := bs.cell 0 rfl
    have s1 := bs.cell 1 rfl
    have s2 := bs.cell 2 rfl
    have s3 := bs.cell 3 rfl
    have ls := bs.lt
    have f0 := bo.cell 0 rfl
    have f1 := bo.cell 1 rfl
    have f2 := bo.cell 2 rfl
    have f3 := bo.cell 3 rfl
    have f4 := bo.cell 4 rfl
    have f5 := bo.cell 5 rfl
    have f6 := bo.cell 6 rfl
    have f7 := bo.cell 7 rfl
    have f8 := bo.cell 8 rfl
    have f9 := bo.cell 9 rfl
    have f10 := bo.cell 10 rfl
    have lf := bo.lt
    have g0 := bp.cell 0 rfl
    have g1 := bp.cell 1 rfl
    have lg := bp.lt
    have HB := hide hu
    clear hu bs bo bp
    ((first | with_reducible refine wp_region_ext2 (by kernel_rfl) (by kernel_rfl) ?_ | refine wp_region_ext (by kernel_rfl) (by kernel_rfl) ?_); (repeat (go_big_quiet_step ((first | (go_at_call 16; with_reducible exact Gives.inRegion (HC.out _ (HB.out.ext _))) | (go_at_call 68; with_reducible exact Gives.inRegion (HP.out _)))))); refine wpQuiet_nil ?_; intro _ hw'; obtain ⟨_, hw''⟩ := hw'; subst hw'')
    go_wp2
    go_ret
    exact ⟨rfl, (by repeat (first | with_reducible exact HB.out | with_reducible exact Up.refl _ | apply Up.ext | apply Up.alloc | apply Up.drew | (refine Up.setCell ?_ (by simp [World.setCell]; try omega) _)))⟩
  have hpb := hp hN
  rw [hN] at HP
  rw [hN, Bool.true_and]
  generalize kndOf s o = k at *
  unfold kndV at HO
  cases hs : k.sc
  · rw [if_neg (by simp [hs])] at HO
    have HF := hide (fun W => wrfield_any hk hpb hs W)
    have hm := fun (n : Nat) (w : World) => (meth_r k n w).2.1
    simp only [mField, theName] at hm
    generalize fieldK k p = F at *
    generalize s.home = home at *
    clear hL he hp hN hk hpb hs
    obtain ⟨p1, p2⟩ := p
    dsimp only at *
    (unfold Gives; go_enter Tryz.func18, Tryz.ntmps18)
    go_wp2_with fail
    refine forgetW (fun V => Up w V ∧ Box V w.heap.size #[.slice a n c, .int .i64 home, .slice sa sn sc, .slice ca cn cc] 28 ∧ Box V (w.heap.size + 1) (offA o) 32 ∧ Box V (w.heap.size + 1 + 1) #[.int .i64 (p1), .int .i64 (p2)] 30) ⟨(by repeat (first | with_reducible exact Up.refl _ | with_reducible apply Up.plus | apply Up.ext | apply Up.alloc | apply Up.drew | (refine Up.setCell ?_ (by simp; try omega) _))), (by repeat (first | exact Box.mk rfl | (refine Box.mk ?_; simp; done) | apply Box.ext | apply Box.drew | apply Box.alloc | apply Box.two1 | (refine Box.other ?_ (by omega) _ _))), (by repeat (first | exact Box.mk rfl | (refine Box.mk ?_; simp; done) | apply Box.ext | apply Box.drew | apply Box.alloc | apply Box.two1 | (refine Box.other ?_ (by omega) _ _))), (by repeat (first | exact Box.mk rfl | (refine Box.mk ?_; simp; done) | apply Box.ext | apply Box.drew | apply Box.alloc | apply Box.two1 | (refine Box.other ?_ (by omega) _ _)))⟩ ?_
    rintro V ⟨hu, bs, bo, bp⟩
    have s0 := bs.cell 0 rfl
    have s1 := bs.cell 1 rfl
    have s2 := bs.cell 2 rfl
    have s3 := bs.cell 3 rfl
    have ls := bs.lt
    have f0 := bo.cell 0 rfl
    have f1 := bo.cell 1 rfl
    have f2 := bo.cell 2 rfl
    have f3 := bo.cell 3 rfl
    have f4 := bo.cell 4 rfl
    have f5 := bo.cell 5 rfl
    have f6 := bo.cell 6 rfl
    have f7 := bo.cell 7 rfl
    have f8 := bo.cell 8 rfl
    have f9 := bo.cell 9 rfl
    have f10 := bo.cell 10 rfl
    have lf := bo.lt
    have g0 := bp.cell 0 rfl
    have g1 := bp.cell 1 rfl
    have lg := bp.lt
    have HB := hide hu
    clear hu bs bo bp
    ((first | with_reducible refine wp_region_ext2 (by kernel_rfl) (by kernel_rfl) ?_ | refine wp_region_ext (by kernel_rfl) (by kernel_rfl) ?_); (repeat (go_big_quiet_step ((first | (go_at_call 16; with_reducible exact Gives.inRegion (HC.out _ (HB.out.ext _))) | (go_at_call 68; with_reducible exact Gives.inRegion (HP.out _)) | (go_at_call 58; with_reducible exact Gives.inRegion (HO.out _ (HB.out.ext _))) | (go_at_call 309; with_reducible exact Gives.inRegion (HF.out _)))))); refine wpQuiet_nil ?_; intro _ hw'; obtain ⟨_, hw''⟩ := hw'; subst hw'')
    go_wp2
    go_ret
    exact ⟨rfl, (by repeat (first | with_reducible exact HB.out | with_reducible exact Up.refl _ | apply Up.ext | apply Up.alloc | apply Up.drew | (refine Up.setCell ?_ (by simp [World.setCell]; try omega) _)))⟩
  · rw [if_pos (by simp [hs])] at HO
    have HF := hide (fun W => wsfield_any hk hpb hs W)
    have hm := fun (n : Nat) (w : World) => (meth_s k n w).2.1
    simp only [mField, theName] at hm
    generalize fieldK k p = F at *
    generalize s.home = home at *
    clear hL he hp hN hk hpb hs
    obtain ⟨p1, p2⟩ := p
    dsimp only at *
    (unfold Gives; go_enter Tryz.func18, Tryz.ntmps18)
    go_wp2_with fail
    refine forgetW (fun V => Up w V ∧ Box V w.heap.size #[.slice a n c, .int .i64 home, .slice sa sn sc, .slice ca cn cc] 28 ∧ Box V (w.heap.size + 1) (offA o) 32 ∧ Box V (w.heap.size + 1 + 1) #[.int .i64 (p1), .int .i64 (p2)] 30) ⟨(by repeat (first | with_reducible exact Up.refl _ | with_reducible apply Up.plus | apply Up.ext | apply Up.alloc | apply Up.drew | (refine Up.setCell ?_ (by simp; try omega) _))), (by repeat (first | exact Box.mk rfl | (refine Box.mk ?_; simp; done) | apply Box.ext | apply Box.drew | apply Box.alloc | apply Box.two1 | (refine Box.other ?_ (by omega) _ _))), (by repeat (first | exact Box.mk rfl | (refine Box.mk ?_; simp; done) | apply Box.ext | apply Box.drew | apply Box.alloc | apply Box.two1 | (refine Box.other ?_ (by omega) _ _))), (by repeat (first | exact Box.mk rfl | (refine Box.mk ?_; simp; done) | apply Box.ext | apply Box.drew | apply Box.alloc | apply Box.two1 | (refine Box.other ?_ (by omega) _ _)))⟩ ?_
    rintro V ⟨hu, bs, bo, bp⟩
    have s0 := bs.cell 0 rfl
    have s1 := bs.cell 1 rfl
    have s2 := bs.cell 2 rfl
    have s3 := bs.cell 3 rfl
    have ls := bs.lt
    have f0 := bo.cell 0 rfl
    have f1 := bo.cell 1 rfl
    have f2 := bo.cell 2 rfl
    have f3 := bo.cell 3 rfl
    have f4 := bo.cell 4 rfl
    have f5 := bo.cell 5 rfl
    have f6 := bo.cell 6 rfl
    have f7 := bo.cell 7 rfl
    have f8 := bo.cell 8 rfl
    have f9 := bo.cell 9 rfl
    have f10 := bo.cell 10 rfl
    have lf := bo.lt
    have g0 := bp.cell 0 rfl
    have g1 := bp.cell 1 rfl
    have lg := bp.lt
    have HB := hide hu
    clear hu bs bo bp
    ((first | with_reducible refine wp_region_ext2 (by kernel_rfl) (by kernel_rfl) ?_ | refine wp_region_ext (by kernel_rfl) (by kernel_rfl) ?_); (repeat (go_big_quiet_step ((first | (go_at_call 16; with_reducible exact Gives.inRegion (HC.out _ (HB.out.ext _))) | (go_at_call 68; with_reducible exact Gives.inRegion (HP.out _)) | (go_at_call 58; with_reducible exact Gives.inRegion (HO.out _ (HB.out.ext _))) | (go_at_call 315; with_reducible exact Gives.inRegion (HF.out _)))))); refine wpQuiet_nil ?_; intro _ hw'; obtain ⟨_, hw''⟩ := hw'; subst hw'')
    go_wp2
    go_ret
    exact ⟨rfl, (by repeat (first | with_reducible exact HB.out | with_reducible exact Up.refl _ | apply Up.ext | apply Up.alloc | apply Up.drew | (refine Up.setCell ?_ (by simp [World.setCell]; try omega) _)))⟩
end Go.Proofs.YtnaiaodnnmhdkaaGreat

/- The statements' own helpers: a number brought into range by its remainder, a place brought into range. Conditions: a modulus above 0. -/
namespace Go.Proofs.YtnaiaodnnmhdkaaGreat
set_option linter.unusedVariables false
set_option linter.unusedSimpArgs false
open Go.RowKit

theorem tmod_neg (n m : Int) (hn : n < 0) (hm : 0 < m) : n.tmod m ≤ 0 ∧ -m < n.tmod m ∧ n % m = if n.tmod m < 0 then n.tmod m + m else n.tmod m := by
  have h1 : n.tmod m ≤ 0 := by
    have := Int.tmod_nonneg (a := -n) m (by omega)
    rw [Int.neg_tmod] at this; omega
  have h2 : -m < n.tmod m := by
    have := Int.lt_tmod_of_pos n hm
    omega
  refine ⟨h1, h2, ?_⟩
  have h3 := Int.mul_tdiv_add_tmod n m
  have h4 := Int.mul_ediv_add_emod n m
  have h5 := Int.emod_nonneg n (show m ≠ 0 by omega)
  have h6 := Int.emod_lt_of_pos n hm
  generalize n.tmod m = t at *
  generalize n % m = e at *
  generalize n.tdiv m = q at *
  generalize n / m = r at *
  have h7 : m * (q - r) = e - t := by rw [Int.mul_sub]; omega
  have h8 : q - r = 0 ∨ q - r = 1 := by
    have a1 : q - r < 2 := by
      apply Int.lt_of_mul_lt_mul_left (a := m) _ (by omega)
      omega
    have a2 : -1 < q - r := by
      apply Int.lt_of_mul_lt_mul_left (a := m) _ (by omega)
      omega
    omega
  rcases h8 with h8 | h8 <;> rw [h8] at h7 <;> split <;> omega

theorem mod64_any (n m : Int) (n0 : -9223372036854775808 ≤ n) (n1 : n ≤ 9223372036854775807) (m0 : 0 < m) (m1 : m ≤ 9223372036854775807) (w : World) :
    Gives Tryz.prog 30 #[.int .i64 n, .int .i64 m] w (.int .i64 (n % m)) := by
  by_cases hn : n < 0
  · obtain ⟨h1, h2, h3⟩ := tmod_neg n m hn m0
    have H3 := hide h3
    clear h3
    (unfold Gives; go_enter Tryz.func30, Tryz.ntmps30)
    go_wp2
    all_goals (go_ret; refine ⟨ret_int ?_, (by repeat (first | with_reducible exact Up.refl _ | with_reducible apply Up.plus | apply Up.ext | apply Up.alloc | apply Up.drew | (refine Up.setCell ?_ (by simp; try omega) _)))⟩)
    all_goals (have h3 := H3.out; (first | rw [if_pos (by omega)] at h3 | rw [if_neg (by omega)] at h3); omega)
  · have h1 := Int.emod_nonneg n (show m ≠ 0 by omega)
    have h2 := Int.emod_lt_of_pos n m0
    (unfold Gives; go_enter Tryz.func30, Tryz.ntmps30)
    go_wp2
    all_goals (go_ret; refine ⟨ret_int ?_, (by repeat (first | with_reducible exact Up.refl _ | with_reducible apply Up.plus | apply Up.ext | apply Up.alloc | apply Up.drew | (refine Up.setCell ?_ (by simp; try omega) _)))⟩)
    all_goals rfl
end Go.Proofs.YtnaiaodnnmhdkaaGreat

