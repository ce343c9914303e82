/- Several texts in one. -/
import Derived.Test.YteafglginnonnaaGreatModk
import Derived.Test.YteafglginnonnaaGreatTail
import Derived.Test.YteafglginnonnaaGreatWatchF
import Derived.Test.YteafglginnonnaaGreatWatchJ
/- The helpers of the statements of layer 6: a place near another one, an area around it. Conditions: bounded numbers. -/
namespace Go.Proofs.YteafglginnonnaaGreat
set_option linter.unusedVariables false
set_option linter.unusedSimpArgs false
open Go.RowKit
theorem xarea6_any (a b c d:Int) (w:World):Gives Tryz.prog 20 #[.int .i64 a,.int .i64 b,.int .i64 c,.int .i64 d] w (.agg #[.int .i64 (a),.int .i64 (b),.int .i64 (c),.int .i64 (d)]):=by
 (unfold Gives;go_enter Tryz.func20,Tryz.ntmps20)
 go_wp2
 all_goals (refine bodyPost_give (by repeat (first | with_reducible exact Up.refl _ | with_reducible apply Up.plus | apply Up.ext | apply Up.alloc | apply Up.drew | (refine Up.setCell ?_ (by simp;try omega) _))) rfl ⟨_,(by simp [results,Tryz.results20,go_sem];rfl),?_⟩)
 all_goals rfl
end Go.Proofs.YteafglginnonnaaGreat
/- Package watch: the view of an area, the values of a place. Conditions: what lies in memory. -/
namespace Go.Proofs.YteafglginnonnaaGreat
set_option linter.unusedVariables false
set_option linter.unusedSimpArgs false
open Go.RowKit Go.Shelf
set_option maxRecDepth 100000 in
set_option maxHeartbeats 4000000 in
theorem wView_any {K:Nat → Prop} {w:World} {a sa ca:Option Addr} {n c sn sc cn cc:Nat} {s:SkyD} (hL:SkyL K w a n c sa sn sc ca cn cc s) (o:OffD) (x:Ar4):Gives Tryz.prog 21 #[.agg #[.slice a n c,.int .i64 s.home,.slice sa sn sc,.slice ca cn cc],.agg (offA o),.agg #[.int .i64 (x.1),.int .i64 (x.2.1),.int .i64 (x.2.2.1),.int .i64 (x.2.2.2)]] w (.tuple #[.agg (viewA (viewV s o x).1),.int .i64 (viewV s o x).2]):=by
 have HC:=hide (fun W (hu:Up w W)=>wcheck_any (hL.up hu).b hL.h (hL.up hu).st (hL.up hu).ca o)
 have HP:=hide (fun W=>warea_any x W)
 unfold viewV
 by_cases he:offE s o = 0
 rotate_left
 · rw [if_neg he]
   have heb:(offE s o != 0) = true:=by simpa using he
   generalize offE s o = e at *
   generalize s.home = home at *
   clear hL he HP
   obtain ⟨x0,x1,y0,y1⟩:=x
   dsimp only
   (unfold Gives;go_enter Tryz.func21,Tryz.ntmps21)
   go_wp2_with fail
   go_at_call 44
   refine forgetK (fun V=>Up w V ∧ Box V w.heap.size #[.slice a n c,.int .i64 home,.slice sa sn sc,.slice ca cn cc] 29 ∧ Box V (w.heap.size + 1) (offA o) 50 ∧ Box V (w.heap.size + 1 + 1) #[.int .i64 (x0),.int .i64 (x1),.int .i64 (y0),.int .i64 (y1)] 61 ∧ Box V (w.heap.size + 1 + 1 + 1) #[.bool false,.bool false,.int .i64 0,.int .i64 0] 64) ⟨(by repeat (first | with_reducible exact Up.refl _ | with_reducible apply Up.plus | apply Up.ext | apply Up.alloc | apply Up.drew | (refine Up.setCell ?_ (by simp;try omega) _))),(by repeat (first | exact Box.mk rfl | (refine Box.mk ?_;simp;done) | apply Box.ext | apply Box.drew | apply Box.alloc | apply Box.two1 | (refine Box.other ?_ (by omega) _ _))),(by repeat (first | exact Box.mk rfl | (refine Box.mk ?_;simp;done) | apply Box.ext | apply Box.drew | apply Box.alloc | apply Box.two1 | (refine Box.other ?_ (by omega) _ _))),(by repeat (first | exact Box.mk rfl | (refine Box.mk ?_;simp;done) | apply Box.ext | apply Box.drew | apply Box.alloc | apply Box.two1 | (refine Box.other ?_ (by omega) _ _))),(by repeat (first | exact Box.mk rfl | (refine Box.mk ?_;simp;done) | apply Box.ext | apply Box.drew | apply Box.alloc | apply Box.two1 | (refine Box.other ?_ (by omega) _ _)))⟩ ?_
   rintro V ⟨hu,bs,bo,bp,bz⟩
   have HB:=hide (And.intro hu (And.intro bs (And.intro bo (And.intro bp bz))))
   clear hu bs bo bp bz
   refine (HC.out _ HB.out.1).mono ?_
   intro p1
   have s0:=(HB.out.2.1).cell 0 rfl
   have s1:=(HB.out.2.1).cell 1 rfl
   have s2:=(HB.out.2.1).cell 2 rfl
   have s3:=(HB.out.2.1).cell 3 rfl
   have ls:=(HB.out.2.1).lt
   have f0:=(HB.out.2.2.1).cell 0 rfl
   have f1:=(HB.out.2.2.1).cell 1 rfl
   have f2:=(HB.out.2.2.1).cell 2 rfl
   have f3:=(HB.out.2.2.1).cell 3 rfl
   have f4:=(HB.out.2.2.1).cell 4 rfl
   have f5:=(HB.out.2.2.1).cell 5 rfl
   have f6:=(HB.out.2.2.1).cell 6 rfl
   have f7:=(HB.out.2.2.1).cell 7 rfl
   have f8:=(HB.out.2.2.1).cell 8 rfl
   have f9:=(HB.out.2.2.1).cell 9 rfl
   have f10:=(HB.out.2.2.1).cell 10 rfl
   have lf:=(HB.out.2.2.1).lt
   have g0:=(HB.out.2.2.2.1).cell 0 rfl
   have g1:=(HB.out.2.2.2.1).cell 1 rfl
   have g2:=(HB.out.2.2.2.1).cell 2 rfl
   have g3:=(HB.out.2.2.2.1).cell 3 rfl
   have lg:=(HB.out.2.2.2.1).lt
   have z0:=(HB.out.2.2.2.2).cell 0 rfl
   have z1:=(HB.out.2.2.2.2).cell 1 rfl
   have z2:=(HB.out.2.2.2.2).cell 2 rfl
   have z3:=(HB.out.2.2.2.2).cell 3 rfl
   have lz:=(HB.out.2.2.2.2).lt
   have fz0:=(HB.out.2.2.2.2).frozen 0
   have fz1:=(HB.out.2.2.2.2).frozen 1
   have fz2:=(HB.out.2.2.2.2).frozen 2
   have fz3:=(HB.out.2.2.2.2).frozen 3
   go_wp2_with fail
   refine forgetW (fun WF=>Up w WF ∧ Box WF (w.heap.size + 1 + 1 + 1) #[.bool false,.bool false,.int .i64 0,.int .i64 0] 64) ⟨(by repeat (first | with_reducible exact HB.out.1 | with_reducible exact Up.refl _ | with_reducible apply Up.ext | with_reducible apply Up.alloc | with_reducible apply Up.drew | (with_reducible refine Up.setCell ?_ (by simp only;omega) _))),?_⟩ ?_
   · exact (by (repeat (first | with_reducible apply Box.ext | with_reducible apply Box.alloc | with_reducible apply Box.drew));exact ((((HB.out.2.2.2.2.set 0 (.bool false)).set 1 (.bool false)).set 2 (.int .i64 0)).set 3 (.int .i64 0)))
   rintro WF ⟨huF,hbF⟩
   have w0:=hbF.cell 0 rfl
   have w1:=hbF.cell 1 rfl
   have w2:=hbF.cell 2 rfl
   have w3:=hbF.cell 3 rfl
   (refine bodyPost_give huF rfl ⟨_,(by simp [results,Tryz.results21,go_sem,w0,w1,w2,w3];rfl),?_⟩)
   rfl
 have HO:=hide (fun W (hu:Up w W)=>wof_any (hL.up hu).b hL.h (hL.up hu).st (hL.up hu).ca he)
 have hk:=kbd_of he
 rw [if_pos he]
 rw [he] at HC
 by_cases hA:areaB x = true
 rotate_left
 · rw [if_neg hA]
   rw [show areaB x = false by simpa using hA] at HP
   generalize s.home = home at *
   clear hL he hk hA HO
   obtain ⟨x0,x1,y0,y1⟩:=x
   dsimp only at *
   (unfold Gives;go_enter Tryz.func21,Tryz.ntmps21)
   go_wp2_with fail
   go_at_call 44
   refine forgetK (fun V=>Up w V ∧ Box V w.heap.size #[.slice a n c,.int .i64 home,.slice sa sn sc,.slice ca cn cc] 29 ∧ Box V (w.heap.size + 1) (offA o) 50 ∧ Box V (w.heap.size + 1 + 1) #[.int .i64 (x0),.int .i64 (x1),.int .i64 (y0),.int .i64 (y1)] 61 ∧ Box V (w.heap.size + 1 + 1 + 1) #[.bool false,.bool false,.int .i64 0,.int .i64 0] 64) ⟨(by repeat (first | with_reducible exact Up.refl _ | with_reducible apply Up.plus | apply Up.ext | apply Up.alloc | apply Up.drew | (refine Up.setCell ?_ (by simp;try omega) _))),(by repeat (first | exact Box.mk rfl | (refine Box.mk ?_;simp;done) | apply Box.ext | apply Box.drew | apply Box.alloc | apply Box.two1 | (refine Box.other ?_ (by omega) _ _))),(by repeat (first | exact Box.mk rfl | (refine Box.mk ?_;simp;done) | apply Box.ext | apply Box.drew | apply Box.alloc | apply Box.two1 | (refine Box.other ?_ (by omega) _ _))),(by repeat (first | exact Box.mk rfl | (refine Box.mk ?_;simp;done) | apply Box.ext | apply Box.drew | apply Box.alloc | apply Box.two1 | (refine Box.other ?_ (by omega) _ _))),(by repeat (first | exact Box.mk rfl | (refine Box.mk ?_;simp;done) | apply Box.ext | apply Box.drew | apply Box.alloc | apply Box.two1 | (refine Box.other ?_ (by omega) _ _)))⟩ ?_
   rintro V ⟨hu,bs,bo,bp,bz⟩
   have HB:=hide (And.intro hu (And.intro bs (And.intro bo (And.intro bp bz))))
   clear hu bs bo bp bz
   refine (HC.out _ HB.out.1).mono ?_
   intro p1
   have s0:=(HB.out.2.1).cell 0 rfl
   have s1:=(HB.out.2.1).cell 1 rfl
   have s2:=(HB.out.2.1).cell 2 rfl
   have s3:=(HB.out.2.1).cell 3 rfl
   have ls:=(HB.out.2.1).lt
   have f0:=(HB.out.2.2.1).cell 0 rfl
   have f1:=(HB.out.2.2.1).cell 1 rfl
   have f2:=(HB.out.2.2.1).cell 2 rfl
   have f3:=(HB.out.2.2.1).cell 3 rfl
   have f4:=(HB.out.2.2.1).cell 4 rfl
   have f5:=(HB.out.2.2.1).cell 5 rfl
   have f6:=(HB.out.2.2.1).cell 6 rfl
   have f7:=(HB.out.2.2.1).cell 7 rfl
   have f8:=(HB.out.2.2.1).cell 8 rfl
   have f9:=(HB.out.2.2.1).cell 9 rfl
   have f10:=(HB.out.2.2.1).cell 10 rfl
   have lf:=(HB.out.2.2.1).lt
   have g0:=(HB.out.2.2.2.1).cell 0 rfl
   have g1:=(HB.out.2.2.2.1).cell 1 rfl
   have g2:=(HB.out.2.2.2.1).cell 2 rfl
   have g3:=(HB.out.2.2.2.1).cell 3 rfl
   have lg:=(HB.out.2.2.2.1).lt
   have z0:=(HB.out.2.2.2.2).cell 0 rfl
   have z1:=(HB.out.2.2.2.2).cell 1 rfl
   have z2:=(HB.out.2.2.2.2).cell 2 rfl
   have z3:=(HB.out.2.2.2.2).cell 3 rfl
   have lz:=(HB.out.2.2.2.2).lt
   have fz0:=(HB.out.2.2.2.2).frozen 0
   have fz1:=(HB.out.2.2.2.2).frozen 1
   have fz2:=(HB.out.2.2.2.2).frozen 2
   have fz3:=(HB.out.2.2.2.2).frozen 3
   go_wp2_with fail
   go_at_call 51
   refine (HP.out _).mono ?_
   intro p2
   go_wp2_with fail
   refine forgetW (fun WF=>Up w WF ∧ Box WF (w.heap.size + 1 + 1 + 1) #[.bool false,.bool false,.int .i64 0,.int .i64 0] 64) ⟨(by repeat (first | with_reducible exact HB.out.1 | with_reducible exact Up.refl _ | with_reducible apply Up.ext | with_reducible apply Up.alloc | with_reducible apply Up.drew | (with_reducible refine Up.setCell ?_ (by simp only;omega) _))),?_⟩ ?_
   · exact (by (repeat (first | with_reducible apply Box.ext | with_reducible apply Box.alloc | with_reducible apply Box.drew));exact ((((HB.out.2.2.2.2.set 0 (.bool false)).set 1 (.bool false)).set 2 (.int .i64 0)).set 3 (.int .i64 0)))
   rintro WF ⟨huF,hbF⟩
   have w0:=hbF.cell 0 rfl
   have w1:=hbF.cell 1 rfl
   have w2:=hbF.cell 2 rfl
   have w3:=hbF.cell 3 rfl
   (refine bodyPost_give huF rfl ⟨_,(by simp [results,Tryz.results21,go_sem,w0,w1,w2,w3];rfl),?_⟩)
   rfl
 · rw [if_pos hA]
   rw [hA] at HP
   have HV:=hide (fun W=>wview_k hk ((areaB_iff x).1 hA) W)
   generalize viewK (kndOf s o) x = R at *
   generalize kndV (kndOf s o) = KV at *
   generalize s.home = home at *
   clear hL he hk hA
   obtain ⟨x0,x1,y0,y1⟩:=x
   dsimp only at *
   (unfold Gives;go_enter Tryz.func21,Tryz.ntmps21)
   go_wp2_with fail
   go_at_call 44
   refine forgetK (fun V=>Up w V ∧ Box V w.heap.size #[.slice a n c,.int .i64 home,.slice sa sn sc,.slice ca cn cc] 29 ∧ Box V (w.heap.size + 1) (offA o) 50 ∧ Box V (w.heap.size + 1 + 1) #[.int .i64 (x0),.int .i64 (x1),.int .i64 (y0),.int .i64 (y1)] 61 ∧ Box V (w.heap.size + 1 + 1 + 1) #[.bool false,.bool false,.int .i64 0,.int .i64 0] 64) ⟨(by repeat (first | with_reducible exact Up.refl _ | with_reducible apply Up.plus | apply Up.ext | apply Up.alloc | apply Up.drew | (refine Up.setCell ?_ (by simp;try omega) _))),(by repeat (first | exact Box.mk rfl | (refine Box.mk ?_;simp;done) | apply Box.ext | apply Box.drew | apply Box.alloc | apply Box.two1 | (refine Box.other ?_ (by omega) _ _))),(by repeat (first | exact Box.mk rfl | (refine Box.mk ?_;simp;done) | apply Box.ext | apply Box.drew | apply Box.alloc | apply Box.two1 | (refine Box.other ?_ (by omega) _ _))),(by repeat (first | exact Box.mk rfl | (refine Box.mk ?_;simp;done) | apply Box.ext | apply Box.drew | apply Box.alloc | apply Box.two1 | (refine Box.other ?_ (by omega) _ _))),(by repeat (first | exact Box.mk rfl | (refine Box.mk ?_;simp;done) | apply Box.ext | apply Box.drew | apply Box.alloc | apply Box.two1 | (refine Box.other ?_ (by omega) _ _)))⟩ ?_
   rintro V ⟨hu,bs,bo,bp,bz⟩
   have HB:=hide (And.intro hu (And.intro bs (And.intro bo (And.intro bp bz))))
   clear hu bs bo bp bz
   refine (HC.out _ HB.out.1).mono ?_
   intro p1
   have s0:=(HB.out.2.1).cell 0 rfl
   have s1:=(HB.out.2.1).cell 1 rfl
   have s2:=(HB.out.2.1).cell 2 rfl
   have s3:=(HB.out.2.1).cell 3 rfl
   have ls:=(HB.out.2.1).lt
   have f0:=(HB.out.2.2.1).cell 0 rfl
   have f1:=(HB.out.2.2.1).cell 1 rfl
   have f2:=(HB.out.2.2.1).cell 2 rfl
   have f3:=(HB.out.2.2.1).cell 3 rfl
   have f4:=(HB.out.2.2.1).cell 4 rfl
   have f5:=(HB.out.2.2.1).cell 5 rfl
   have f6:=(HB.out.2.2.1).cell 6 rfl
   have f7:=(HB.out.2.2.1).cell 7 rfl
   have f8:=(HB.out.2.2.1).cell 8 rfl
   have f9:=(HB.out.2.2.1).cell 9 rfl
   have f10:=(HB.out.2.2.1).cell 10 rfl
   have lf:=(HB.out.2.2.1).lt
   have g0:=(HB.out.2.2.2.1).cell 0 rfl
   have g1:=(HB.out.2.2.2.1).cell 1 rfl
   have g2:=(HB.out.2.2.2.1).cell 2 rfl
   have g3:=(HB.out.2.2.2.1).cell 3 rfl
   have lg:=(HB.out.2.2.2.1).lt
   have z0:=(HB.out.2.2.2.2).cell 0 rfl
   have z1:=(HB.out.2.2.2.2).cell 1 rfl
   have z2:=(HB.out.2.2.2.2).cell 2 rfl
   have z3:=(HB.out.2.2.2.2).cell 3 rfl
   have lz:=(HB.out.2.2.2.2).lt
   have fz0:=(HB.out.2.2.2.2).frozen 0
   have fz1:=(HB.out.2.2.2.2).frozen 1
   have fz2:=(HB.out.2.2.2.2).frozen 2
   have fz3:=(HB.out.2.2.2.2).frozen 3
   go_wp2_with fail
   go_at_call 51
   refine (HP.out _).mono ?_
   intro p2
   go_wp2_with fail
   refine forgetW (fun V=>Up w V ∧ Box V w.heap.size #[.slice a n c,.int .i64 home,.slice sa sn sc,.slice ca cn cc] 29 ∧ Box V (w.heap.size + 1) (offA o) 50 ∧ Box V (w.heap.size + 1 + 1) #[.int .i64 (x0),.int .i64 (x1),.int .i64 (y0),.int .i64 (y1)] 61 ∧ Box V (w.heap.size + 1 + 1 + 1) #[.bool false,.bool false,.int .i64 0,.int .i64 0] 64) ⟨(by repeat (first | with_reducible exact HB.out.1 | with_reducible exact Up.refl _ | with_reducible apply Up.ext | with_reducible apply Up.alloc | with_reducible apply Up.drew | (with_reducible refine Up.setCell ?_ (by simp only;omega) _))),(by repeat (first | with_reducible exact HB.out.2.1 | with_reducible apply Box.ext | with_reducible apply Box.alloc | with_reducible apply Box.drew | (with_reducible refine Box.other ?_ (by omega) _ _))),(by repeat (first | with_reducible exact HB.out.2.2.1 | with_reducible apply Box.ext | with_reducible apply Box.alloc | with_reducible apply Box.drew | (with_reducible refine Box.other ?_ (by omega) _ _))),(by repeat (first | with_reducible exact HB.out.2.2.2.1 | with_reducible apply Box.ext | with_reducible apply Box.alloc | with_reducible apply Box.drew | (with_reducible refine Box.other ?_ (by omega) _ _))),(by repeat (first | with_reducible exact HB.out.2.2.2.2 | with_reducible apply Box.ext | with_reducible apply Box.alloc | with_reducible apply Box.drew | (with_reducible refine Box.other ?_ (by omega) _ _)))⟩ ?_
   clear HB s0 s1 s2 s3 ls f0 f1 f2 f3 f4 f5 f6 f7 f8 f9 f10 lf g0 g1 g2 g3 lg z0 z1 z2 z3 lz fz0 fz1 fz2 fz3
   rintro V ⟨hu,bs,bo,bp,bz⟩
   have HB:=hide (And.intro hu (And.intro bs (And.intro bo (And.intro bp bz))))
   clear hu bs bo bp bz
   have s0:=(HB.out.2.1).cell 0 rfl
   have s1:=(HB.out.2.1).cell 1 rfl
   have s2:=(HB.out.2.1).cell 2 rfl
   have s3:=(HB.out.2.1).cell 3 rfl
   have ls:=(HB.out.2.1).lt
   have f0:=(HB.out.2.2.1).cell 0 rfl
   have f1:=(HB.out.2.2.1).cell 1 rfl
   have f2:=(HB.out.2.2.1).cell 2 rfl
   have f3:=(HB.out.2.2.1).cell 3 rfl
   have f4:=(HB.out.2.2.1).cell 4 rfl
   have f5:=(HB.out.2.2.1).cell 5 rfl
   have f6:=(HB.out.2.2.1).cell 6 rfl
   have f7:=(HB.out.2.2.1).cell 7 rfl
   have f8:=(HB.out.2.2.1).cell 8 rfl
   have f9:=(HB.out.2.2.1).cell 9 rfl
   have f10:=(HB.out.2.2.1).cell 10 rfl
   have lf:=(HB.out.2.2.1).lt
   have g0:=(HB.out.2.2.2.1).cell 0 rfl
   have g1:=(HB.out.2.2.2.1).cell 1 rfl
   have g2:=(HB.out.2.2.2.1).cell 2 rfl
   have g3:=(HB.out.2.2.2.1).cell 3 rfl
   have lg:=(HB.out.2.2.2.1).lt
   have z0:=(HB.out.2.2.2.2).cell 0 rfl
   have z1:=(HB.out.2.2.2.2).cell 1 rfl
   have z2:=(HB.out.2.2.2.2).cell 2 rfl
   have z3:=(HB.out.2.2.2.2).cell 3 rfl
   have lz:=(HB.out.2.2.2.2).lt
   have fz0:=(HB.out.2.2.2.2).frozen 0
   have fz1:=(HB.out.2.2.2.2).frozen 1
   have fz2:=(HB.out.2.2.2.2).frozen 2
   have fz3:=(HB.out.2.2.2.2).frozen 3
   ((first | with_reducible refine wp_region_ext_tail2 2 (by kernel_rfl) (by kernel_rfl) ?_ | refine wp_region_ext_tail 2 (by kernel_rfl) (by kernel_rfl) ?_);simp only [List.length_cons,List.length_nil,Nat.reduceAdd,Nat.reduceSub,List.take_succ_cons,List.take_zero,List.drop_succ_cons,List.drop_zero];(repeat (go_big_quiet_step ((first | (go_at_call 50;with_reducible exact Gives.inRegion (HO.out _ (HB.out.1.ext _))) | (go_at_call 52;with_reducible exact Gives.inRegion (HV.out _))))));refine wpQuiet_nil ?_;intro _ hw';obtain ⟨_,hw''⟩:=hw';subst hw'')
   go_wp2_with fail
   refine forgetW (fun WF=>Up w WF ∧ Box WF (w.heap.size + 1 + 1 + 1) (viewA R) 64) ⟨(by repeat (first | with_reducible exact HB.out.1 | with_reducible exact Up.refl _ | with_reducible apply Up.ext | with_reducible apply Up.alloc | with_reducible apply Up.drew | (with_reducible refine Up.setCell ?_ (by simp only;omega) _))),?_⟩ ?_
   · exact (by (repeat (first | with_reducible apply Box.ext | with_reducible apply Box.alloc | with_reducible apply Box.drew));exact ((((HB.out.2.2.2.2.set 0 (.bool R.1)).set 1 (.bool R.2.1)).set 2 (.int .i64 R.2.2.1)).set 3 (.int .i64 R.2.2.2)))
   rintro WF ⟨huF,hbF⟩
   have w0:=hbF.cell 0 rfl
   have w1:=hbF.cell 1 rfl
   have w2:=hbF.cell 2 rfl
   have w3:=hbF.cell 3 rfl
   (refine bodyPost_give huF rfl ⟨_,(by simp [results,Tryz.results21,go_sem,w0,w1,w2,w3];rfl),?_⟩)
   rfl
end Go.Proofs.YteafglginnonnaaGreat
/- Package watch: the values of a place. Conditions: what lies in memory. -/
namespace Go.Proofs.YteafglginnonnaaGreat
set_option linter.unusedVariables false
set_option linter.unusedSimpArgs false
open Go.RowKit Go.Shelf
theorem fieldV_true {s:SkyD} {o:OffD} {p:Int × Int} (h:fieldV s o p = true):offE s o = 0 ∧ PBd p ∧ fieldK (kndOf s o) p = true:=by
 unfold fieldV at h
 simp only [Bool.and_eq_true,decide_eq_true_eq] at h
 exact ⟨h.1,(nearV_iff _ _).1 h.2.1,h.2.2⟩
theorem field_front {k:KndD} {p:Int × Int} (h:fieldK k p = true) (hs:k.sc = true):0 < doK k p:=by
 unfold fieldK at h
 simp only [Bool.and_eq_true,Bool.or_eq_true,Bool.not_eq_true'] at h
 have:=h.2.resolve_left (by simp [hs])
 unfold withinK at this
 simp only [Bool.and_eq_true,decide_eq_true_eq] at this
 exact this.1
set_option maxRecDepth 100000 in
set_option maxHeartbeats 4000000 in
theorem wReads_any {K:Nat → Prop} {w:World} {a sa ca:Option Addr} {n c sn sc cn cc:Nat} {s:SkyD} (hL:SkyL K w a n c sa sn sc ca cn cc s) (o:OffD) (p:Int × Int):Gives Tryz.prog 19 #[.agg #[.slice a n c,.int .i64 s.home,.slice sa sn sc,.slice ca cn cc],.agg (offA o),.agg #[.int .i64 (p.1),.int .i64 (p.2)]] w (.tuple #[.agg #[.int .i64 ((readsV s o p).1.1),.int .i64 ((readsV s o p).1.2)],.bool (readsV s o p).2]):=by
 have HF:=hide (fun W (hu:Up w W)=>wField_any (hL.up hu) o p)
 unfold readsV
 by_cases hF:fieldV s o p = true
 rotate_left
 · rw [if_neg (by simp [hF])]
   rw [show fieldV s o p = false by simpa using hF] at HF
   generalize s.home = home at *
   clear hL hF
   obtain ⟨p1,p2⟩:=p
   dsimp only at *
   (unfold Gives;go_enter Tryz.func19,Tryz.ntmps19)
   go_wp2_with fail
   go_at_call 18
   refine forgetK (fun V=>Up w V ∧ Box V w.heap.size #[.slice a n c,.int .i64 home,.slice sa sn sc,.slice ca cn cc] 29 ∧ Box V (w.heap.size + 1) (offA o) 50 ∧ Box V (w.heap.size + 1 + 1) #[.int .i64 (p1),.int .i64 (p2)] 48 ∧ Box V (w.heap.size + 1 + 1 + 1) #[.int .i64 (0),.int .i64 (0)] 31) ⟨(by repeat (first | with_reducible exact Up.refl _ | with_reducible apply Up.plus | apply Up.ext | apply Up.alloc | apply Up.drew | (refine Up.setCell ?_ (by simp;try omega) _))),(by repeat (first | exact Box.mk rfl | (refine Box.mk ?_;simp;done) | apply Box.ext | apply Box.drew | apply Box.alloc | apply Box.two1 | (refine Box.other ?_ (by omega) _ _))),(by repeat (first | exact Box.mk rfl | (refine Box.mk ?_;simp;done) | apply Box.ext | apply Box.drew | apply Box.alloc | apply Box.two1 | (refine Box.other ?_ (by omega) _ _))),(by repeat (first | exact Box.mk rfl | (refine Box.mk ?_;simp;done) | apply Box.ext | apply Box.drew | apply Box.alloc | apply Box.two1 | (refine Box.other ?_ (by omega) _ _))),(by repeat (first | exact Box.mk rfl | (refine Box.mk ?_;simp;done) | apply Box.ext | apply Box.drew | apply Box.alloc | apply Box.two1 | (refine Box.other ?_ (by omega) _ _)))⟩ ?_
   rintro V ⟨hu,bs,bo,bp,bz⟩
   have HB:=hide (And.intro hu (And.intro bs (And.intro bo (And.intro bp bz))))
   clear hu bs bo bp bz
   refine (HF.out _ HB.out.1).mono ?_
   intro pf
   have s0:=(HB.out.2.1).cell 0 rfl
   have s1:=(HB.out.2.1).cell 1 rfl
   have s2:=(HB.out.2.1).cell 2 rfl
   have s3:=(HB.out.2.1).cell 3 rfl
   have ls:=(HB.out.2.1).lt
   have f0:=(HB.out.2.2.1).cell 0 rfl
   have f1:=(HB.out.2.2.1).cell 1 rfl
   have f2:=(HB.out.2.2.1).cell 2 rfl
   have f3:=(HB.out.2.2.1).cell 3 rfl
   have f4:=(HB.out.2.2.1).cell 4 rfl
   have f5:=(HB.out.2.2.1).cell 5 rfl
   have f6:=(HB.out.2.2.1).cell 6 rfl
   have f7:=(HB.out.2.2.1).cell 7 rfl
   have f8:=(HB.out.2.2.1).cell 8 rfl
   have f9:=(HB.out.2.2.1).cell 9 rfl
   have f10:=(HB.out.2.2.1).cell 10 rfl
   have lf:=(HB.out.2.2.1).lt
   have g0:=(HB.out.2.2.2.1).cell 0 rfl
   have g1:=(HB.out.2.2.2.1).cell 1 rfl
   have lg:=(HB.out.2.2.2.1).lt
   have z0:=(HB.out.2.2.2.2).cell 0 rfl
   have z1:=(HB.out.2.2.2.2).cell 1 rfl
   have lz:=(HB.out.2.2.2.2).lt
   have fz0:=(HB.out.2.2.2.2).frozen 0
   have fz1:=(HB.out.2.2.2.2).frozen 1
   go_wp2_with fail
   refine forgetW (fun WF=>Up w WF ∧ Box WF (w.heap.size + 1 + 1 + 1) #[.int .i64 (0),.int .i64 (0)] 31) ⟨(by repeat (first | with_reducible exact HB.out.1 | with_reducible exact Up.refl _ | with_reducible apply Up.ext | with_reducible apply Up.alloc | with_reducible apply Up.drew | (with_reducible refine Up.setCell ?_ (by simp only;omega) _))),?_⟩ ?_
   · exact (by (repeat (first | with_reducible apply Box.ext | with_reducible apply Box.alloc | with_reducible apply Box.drew));exact ((HB.out.2.2.2.2.set 0 (.int .i64 0)).set 1 (.int .i64 0)))
   rintro WF ⟨huF,hbF⟩
   have w0:=hbF.cell 0 rfl
   have w1:=hbF.cell 1 rfl
   (refine bodyPost_give huF rfl ⟨_,(by simp [results,Tryz.results19,go_sem,w0,w1];rfl),?_⟩)
   rfl
 rw [hF] at HF
 obtain ⟨he,hpb,hfk⟩:=fieldV_true hF
 have HO:=hide (fun W (hu:Up w W)=>wof_any (hL.up hu).b hL.h (hL.up hu).st (hL.up hu).ca he)
 have hk:=kbd_of he
 simp only [hF,true_and]
 generalize kndOf s o = k at *
 unfold kndV at HO
 cases hs:k.sc
 · rw [if_neg (by simp [hs])] at HO
   have HR:=hide (fun W=>wrreads_any hk hpb hs W)
   have hm:=fun (n:Nat) (w:World)=>(meth_r k n w).2.2.2
   simp only [mReads,theName] at hm
   generalize readsK k p = R at *
   obtain ⟨R1,R2⟩:=R
   generalize s.home = home at *
   clear hL he hk hpb hfk hs hF
   obtain ⟨p1,p2⟩:=p
   dsimp only at *
   have key:∀ (b:Bool),decide (R2 < R1) = b → Gives Tryz.prog 19 #[.agg #[.slice a n c,.int .i64 home,.slice sa sn sc,.slice ca cn cc],.agg (offA o),.agg #[.int .i64 (p1),.int .i64 (p2)]] w (if b = true then (.tuple #[.agg #[.int .i64 (0),.int .i64 (0)],.bool false]) else (.tuple #[.agg #[.int .i64 (R1),.int .i64 (R2)],.bool true])):=fun b hb=>by
    cases b
    all_goals
     (unfold Gives;go_enter Tryz.func19,Tryz.ntmps19)
     go_wp2_with fail
     go_at_call 18
     refine forgetK (fun V=>Up w V ∧ Box V w.heap.size #[.slice a n c,.int .i64 home,.slice sa sn sc,.slice ca cn cc] 29 ∧ Box V (w.heap.size + 1) (offA o) 50 ∧ Box V (w.heap.size + 1 + 1) #[.int .i64 (p1),.int .i64 (p2)] 48 ∧ Box V (w.heap.size + 1 + 1 + 1) #[.int .i64 (0),.int .i64 (0)] 31) ⟨(by repeat (first | with_reducible exact Up.refl _ | with_reducible apply Up.plus | apply Up.ext | apply Up.alloc | apply Up.drew | (refine Up.setCell ?_ (by simp;try omega) _))),(by repeat (first | exact Box.mk rfl | (refine Box.mk ?_;simp;done) | apply Box.ext | apply Box.drew | apply Box.alloc | apply Box.two1 | (refine Box.other ?_ (by omega) _ _))),(by repeat (first | exact Box.mk rfl | (refine Box.mk ?_;simp;done) | apply Box.ext | apply Box.drew | apply Box.alloc | apply Box.two1 | (refine Box.other ?_ (by omega) _ _))),(by repeat (first | exact Box.mk rfl | (refine Box.mk ?_;simp;done) | apply Box.ext | apply Box.drew | apply Box.alloc | apply Box.two1 | (refine Box.other ?_ (by omega) _ _))),(by repeat (first | exact Box.mk rfl | (refine Box.mk ?_;simp;done) | apply Box.ext | apply Box.drew | apply Box.alloc | apply Box.two1 | (refine Box.other ?_ (by omega) _ _)))⟩ ?_
     rintro V ⟨hu,bs,bo,bp,bz⟩
     have HB:=hide (And.intro hu (And.intro bs (And.intro bo (And.intro bp bz))))
     clear hu bs bo bp bz
     refine (HF.out _ HB.out.1).mono ?_
     intro pf
     have s0:=(HB.out.2.1).cell 0 rfl
     have s1:=(HB.out.2.1).cell 1 rfl
     have s2:=(HB.out.2.1).cell 2 rfl
     have s3:=(HB.out.2.1).cell 3 rfl
     have ls:=(HB.out.2.1).lt
     have f0:=(HB.out.2.2.1).cell 0 rfl
     have f1:=(HB.out.2.2.1).cell 1 rfl
     have f2:=(HB.out.2.2.1).cell 2 rfl
     have f3:=(HB.out.2.2.1).cell 3 rfl
     have f4:=(HB.out.2.2.1).cell 4 rfl
     have f5:=(HB.out.2.2.1).cell 5 rfl
     have f6:=(HB.out.2.2.1).cell 6 rfl
     have f7:=(HB.out.2.2.1).cell 7 rfl
     have f8:=(HB.out.2.2.1).cell 8 rfl
     have f9:=(HB.out.2.2.1).cell 9 rfl
     have f10:=(HB.out.2.2.1).cell 10 rfl
     have lf:=(HB.out.2.2.1).lt
     have g0:=(HB.out.2.2.2.1).cell 0 rfl
     have g1:=(HB.out.2.2.2.1).cell 1 rfl
     have lg:=(HB.out.2.2.2.1).lt
     have z0:=(HB.out.2.2.2.2).cell 0 rfl
     have z1:=(HB.out.2.2.2.2).cell 1 rfl
     have lz:=(HB.out.2.2.2.2).lt
     have fz0:=(HB.out.2.2.2.2).frozen 0
     have fz1:=(HB.out.2.2.2.2).frozen 1
     go_wp2_with fail
     refine forgetW (fun V=>Up w V ∧ Box V w.heap.size #[.slice a n c,.int .i64 home,.slice sa sn sc,.slice ca cn cc] 29 ∧ Box V (w.heap.size + 1) (offA o) 50 ∧ Box V (w.heap.size + 1 + 1) #[.int .i64 (p1),.int .i64 (p2)] 48 ∧ Box V (w.heap.size + 1 + 1 + 1) #[.int .i64 (0),.int .i64 (0)] 31) ⟨(by repeat (first | with_reducible exact HB.out.1 | with_reducible exact Up.refl _ | with_reducible apply Up.ext | with_reducible apply Up.alloc | with_reducible apply Up.drew | (with_reducible refine Up.setCell ?_ (by simp only;omega) _))),(by repeat (first | with_reducible exact HB.out.2.1 | with_reducible apply Box.ext | with_reducible apply Box.alloc | with_reducible apply Box.drew | (with_reducible refine Box.other ?_ (by omega) _ _))),(by repeat (first | with_reducible exact HB.out.2.2.1 | with_reducible apply Box.ext | with_reducible apply Box.alloc | with_reducible apply Box.drew | (with_reducible refine Box.other ?_ (by omega) _ _))),(by repeat (first | with_reducible exact HB.out.2.2.2.1 | with_reducible apply Box.ext | with_reducible apply Box.alloc | with_reducible apply Box.drew | (with_reducible refine Box.other ?_ (by omega) _ _))),(by repeat (first | with_reducible exact HB.out.2.2.2.2 | with_reducible apply Box.ext | with_reducible apply Box.alloc | with_reducible apply Box.drew | (with_reducible refine Box.other ?_ (by omega) _ _)))⟩ ?_
     clear HB s0 s1 s2 s3 ls f0 f1 f2 f3 f4 f5 f6 f7 f8 f9 f10 lf g0 g1 lg z0 z1 lz fz0 fz1
     rintro V ⟨hu,bs,bo,bp,bz⟩
     have HB:=hide (And.intro hu (And.intro bs (And.intro bo (And.intro bp bz))))
     clear hu bs bo bp bz
     have s0:=(HB.out.2.1).cell 0 rfl
     have s1:=(HB.out.2.1).cell 1 rfl
     have s2:=(HB.out.2.1).cell 2 rfl
     have s3:=(HB.out.2.1).cell 3 rfl
     have ls:=(HB.out.2.1).lt
     have f0:=(HB.out.2.2.1).cell 0 rfl
     have f1:=(HB.out.2.2.1).cell 1 rfl
     have f2:=(HB.out.2.2.1).cell 2 rfl
     have f3:=(HB.out.2.2.1).cell 3 rfl
     have f4:=(HB.out.2.2.1).cell 4 rfl
     have f5:=(HB.out.2.2.1).cell 5 rfl
     have f6:=(HB.out.2.2.1).cell 6 rfl
     have f7:=(HB.out.2.2.1).cell 7 rfl
     have f8:=(HB.out.2.2.1).cell 8 rfl
     have f9:=(HB.out.2.2.1).cell 9 rfl
     have f10:=(HB.out.2.2.1).cell 10 rfl
     have lf:=(HB.out.2.2.1).lt
     have g0:=(HB.out.2.2.2.1).cell 0 rfl
     have g1:=(HB.out.2.2.2.1).cell 1 rfl
     have lg:=(HB.out.2.2.2.1).lt
     have z0:=(HB.out.2.2.2.2).cell 0 rfl
     have z1:=(HB.out.2.2.2.2).cell 1 rfl
     have lz:=(HB.out.2.2.2.2).lt
     have fz0:=(HB.out.2.2.2.2).frozen 0
     have fz1:=(HB.out.2.2.2.2).frozen 1
     refine wp_region_float (al:=[(5,8,#[.int .i64 (0),.int .i64 (0)],31)]) (mv:=fun _=>false) [6] [0,1,2,3,4] (by kernel_rfl) (by kernel_rfl) (makes1 ⟨_,rfl,rfl,fun _=>rfl,fun _ _=>by simp [go_sem]⟩) (cls_ext _) (by first | exact drew_in2 _ _ | exact drew_in _) (Nat.le_refl _) ?_
     simp only [withOps,List.filterMap_cons,List.filterMap_nil,List.getElem?_toArray,List.getElem?_cons_zero,List.getElem?_cons_succ,Option.map_some]
     (repeat (first | (apply walkF_pure (base:=fun p:Ext=>ext _ p) rfl rfl rfl (by kernel_rfl);· (intro px K hK;go_big_quiet_op;first | exact hK | (apply Exists.intro;refine ⟨fun _=>?_,?_⟩;(· ((first | (go_at_call 50;with_reducible exact Gives.inFloat (HO.out _ (Up.ext HB.out.1 _))) | (go_at_call 293;with_reducible exact Gives.inFloat (HR.out _)))));exact hK))) | (apply walkF_skip rfl;simp only [Act.put,List.setIfInBounds_toArray,List.set_cons_zero,List.set_cons_succ])))
     refine walkF_nil (end1 (fun Q U hq hU bq=>?_))
     simp only [Act.put,List.setIfInBounds_toArray,List.set_cons_zero,List.set_cons_succ]
     (try simp only [List.filterMap_cons,List.filterMap_nil,List.getElem?_toArray,List.getElem?_cons_zero,List.getElem?_cons_succ])
     have hU1:Up V U:=hU
     have HQ:=hide (And.intro (HB.out.1.trans hU1) (And.intro (HB.out.2.2.2.2.up hU1) bq))
     have hlz:=HB.out.2.2.2.2.lt
     clear s0 s1 s2 s3 ls f0 f1 f2 f3 f4 f5 f6 f7 f8 f9 f10 lf g0 g1 lg z0 z1 lz fz0 fz1
     have q0:=bq.cell 0 rfl
     have q1:=bq.cell 1 rfl
     have lq:=bq.lt
     have fq0:=bq.frozen 0
     have fq1:=bq.frozen 1
     have z0:=HQ.out.2.1.cell 0 rfl
     have z1:=HQ.out.2.1.cell 1 rfl
     have lz:=HQ.out.2.1.lt
     have fz0:=HQ.out.2.1.frozen 0
     have fz1:=HQ.out.2.1.frozen 1
     have hwQ:w.heap.size ≤ Q:=by omega
     have n1:w.heap.size + 1 + 1 + 1 ≠ Q:=by omega
     have n2:Q ≠ w.heap.size + 1 + 1 + 1:=by omega
     clear hU hU1 bq HB
     go_wp2_with fail
    · refine forgetW (fun WF=>Up w WF ∧ Box WF (w.heap.size + 1 + 1 + 1) #[.int .i64 (R1),.int .i64 (R2)] 31) ⟨(by repeat (first | with_reducible exact HQ.out.1 | with_reducible exact Up.refl _ | with_reducible apply Up.ext | with_reducible apply Up.alloc | with_reducible apply Up.drew | (with_reducible refine Up.setCell ?_ (by simp only;omega) _))),?_⟩ ?_
      · exact (by (repeat (first | with_reducible apply Box.ext | with_reducible apply Box.alloc | with_reducible apply Box.drew));exact ((((HQ.out.2.1.other (b':=Q) n1 0 (.int .i64 R1)).other (b':=Q) n1 1 (.int .i64 R2)).set 0 (.int .i64 R1)).set 1 (.int .i64 R2)))
      rintro WF ⟨huF,hbF⟩
      have w0:=hbF.cell 0 rfl
      have w1:=hbF.cell 1 rfl
      (refine bodyPost_give huF rfl ⟨_,(by simp [results,Tryz.results19,go_sem,w0,w1];rfl),?_⟩)
      rfl
    · refine forgetW (fun WF=>Up w WF ∧ Box WF (w.heap.size + 1 + 1 + 1) #[.int .i64 (0),.int .i64 (0)] 31) ⟨(by repeat (first | with_reducible exact HQ.out.1 | with_reducible exact Up.refl _ | with_reducible apply Up.ext | with_reducible apply Up.alloc | with_reducible apply Up.drew | (with_reducible refine Up.setCell ?_ (by simp only;omega) _))),?_⟩ ?_
      · exact (by (repeat (first | with_reducible apply Box.ext | with_reducible apply Box.alloc | with_reducible apply Box.drew));exact ((((HQ.out.2.1.other (b':=Q) n1 0 (.int .i64 R1)).other (b':=Q) n1 1 (.int .i64 R2)).set 0 (.int .i64 0)).set 1 (.int .i64 0)))
      rintro WF ⟨huF,hbF⟩
      have w0:=hbF.cell 0 rfl
      have w1:=hbF.cell 1 rfl
      (refine bodyPost_give huF rfl ⟨_,(by simp [results,Tryz.results19,go_sem,w0,w1];rfl),?_⟩)
      rfl
   by_cases hle:R1 ≤ R2
   · rw [if_pos hle];exact key false (by simpa using hle)
   · rw [if_neg hle];exact key true (by simpa using hle)
 · rw [if_pos (by simp [hs])] at HO
   have HR:=hide (fun W=>wsreads_any hk hpb hs (field_front hfk hs) W)
   have hm:=fun (n:Nat) (w:World)=>(meth_s k n w).2.2.2
   simp only [mReads,theName] at hm
   generalize readsK k p = R at *
   obtain ⟨R1,R2⟩:=R
   generalize s.home = home at *
   clear hL he hk hpb hfk hs hF
   obtain ⟨p1,p2⟩:=p
   dsimp only at *
   have key:∀ (b:Bool),decide (R2 < R1) = b → Gives Tryz.prog 19 #[.agg #[.slice a n c,.int .i64 home,.slice sa sn sc,.slice ca cn cc],.agg (offA o),.agg #[.int .i64 (p1),.int .i64 (p2)]] w (if b = true then (.tuple #[.agg #[.int .i64 (0),.int .i64 (0)],.bool false]) else (.tuple #[.agg #[.int .i64 (R1),.int .i64 (R2)],.bool true])):=fun b hb=>by
    cases b
    all_goals
     (unfold Gives;go_enter Tryz.func19,Tryz.ntmps19)
     go_wp2_with fail
     go_at_call 18
     refine forgetK (fun V=>Up w V ∧ Box V w.heap.size #[.slice a n c,.int .i64 home,.slice sa sn sc,.slice ca cn cc] 29 ∧ Box V (w.heap.size + 1) (offA o) 50 ∧ Box V (w.heap.size + 1 + 1) #[.int .i64 (p1),.int .i64 (p2)] 48 ∧ Box V (w.heap.size + 1 + 1 + 1) #[.int .i64 (0),.int .i64 (0)] 31) ⟨(by repeat (first | with_reducible exact Up.refl _ | with_reducible apply Up.plus | apply Up.ext | apply Up.alloc | apply Up.drew | (refine Up.setCell ?_ (by simp;try omega) _))),(by repeat (first | exact Box.mk rfl | (refine Box.mk ?_;simp;done) | apply Box.ext | apply Box.drew | apply Box.alloc | apply Box.two1 | (refine Box.other ?_ (by omega) _ _))),(by repeat (first | exact Box.mk rfl | (refine Box.mk ?_;simp;done) | apply Box.ext | apply Box.drew | apply Box.alloc | apply Box.two1 | (refine Box.other ?_ (by omega) _ _))),(by repeat (first | exact Box.mk rfl | (refine Box.mk ?_;simp;done) | apply Box.ext | apply Box.drew | apply Box.alloc | apply Box.two1 | (refine Box.other ?_ (by omega) _ _))),(by repeat (first | exact Box.mk rfl | (refine Box.mk ?_;simp;done) | apply Box.ext | apply Box.drew | apply Box.alloc | apply Box.two1 | (refine Box.other ?_ (by omega) _ _)))⟩ ?_
     rintro V ⟨hu,bs,bo,bp,bz⟩
     have HB:=hide (And.intro hu (And.intro bs (And.intro bo (And.intro bp bz))))
     clear hu bs bo bp bz
     refine (HF.out _ HB.out.1).mono ?_
     intro pf
     have s0:=(HB.out.2.1).cell 0 rfl
     have s1:=(HB.out.2.1).cell 1 rfl
     have s2:=(HB.out.2.1).cell 2 rfl
     have s3:=(HB.out.2.1).cell 3 rfl
     have ls:=(HB.out.2.1).lt
     have f0:=(HB.out.2.2.1).cell 0 rfl
     have f1:=(HB.out.2.2.1).cell 1 rfl
     have f2:=(HB.out.2.2.1).cell 2 rfl
     have f3:=(HB.out.2.2.1).cell 3 rfl
     have f4:=(HB.out.2.2.1).cell 4 rfl
     have f5:=(HB.out.2.2.1).cell 5 rfl
     have f6:=(HB.out.2.2.1).cell 6 rfl
     have f7:=(HB.out.2.2.1).cell 7 rfl
     have f8:=(HB.out.2.2.1).cell 8 rfl
     have f9:=(HB.out.2.2.1).cell 9 rfl
     have f10:=(HB.out.2.2.1).cell 10 rfl
     have lf:=(HB.out.2.2.1).lt
     have g0:=(HB.out.2.2.2.1).cell 0 rfl
     have g1:=(HB.out.2.2.2.1).cell 1 rfl
     have lg:=(HB.out.2.2.2.1).lt
     have z0:=(HB.out.2.2.2.2).cell 0 rfl
     have z1:=(HB.out.2.2.2.2).cell 1 rfl
     have lz:=(HB.out.2.2.2.2).lt
     have fz0:=(HB.out.2.2.2.2).frozen 0
     have fz1:=(HB.out.2.2.2.2).frozen 1
     go_wp2_with fail
     refine forgetW (fun V=>Up w V ∧ Box V w.heap.size #[.slice a n c,.int .i64 home,.slice sa sn sc,.slice ca cn cc] 29 ∧ Box V (w.heap.size + 1) (offA o) 50 ∧ Box V (w.heap.size + 1 + 1) #[.int .i64 (p1),.int .i64 (p2)] 48 ∧ Box V (w.heap.size + 1 + 1 + 1) #[.int .i64 (0),.int .i64 (0)] 31) ⟨(by repeat (first | with_reducible exact HB.out.1 | with_reducible exact Up.refl _ | with_reducible apply Up.ext | with_reducible apply Up.alloc | with_reducible apply Up.drew | (with_reducible refine Up.setCell ?_ (by simp only;omega) _))),(by repeat (first | with_reducible exact HB.out.2.1 | with_reducible apply Box.ext | with_reducible apply Box.alloc | with_reducible apply Box.drew | (with_reducible refine Box.other ?_ (by omega) _ _))),(by repeat (first | with_reducible exact HB.out.2.2.1 | with_reducible apply Box.ext | with_reducible apply Box.alloc | with_reducible apply Box.drew | (with_reducible refine Box.other ?_ (by omega) _ _))),(by repeat (first | with_reducible exact HB.out.2.2.2.1 | with_reducible apply Box.ext | with_reducible apply Box.alloc | with_reducible apply Box.drew | (with_reducible refine Box.other ?_ (by omega) _ _))),(by repeat (first | with_reducible exact HB.out.2.2.2.2 | with_reducible apply Box.ext | with_reducible apply Box.alloc | with_reducible apply Box.drew | (with_reducible refine Box.other ?_ (by omega) _ _)))⟩ ?_
     clear HB s0 s1 s2 s3 ls f0 f1 f2 f3 f4 f5 f6 f7 f8 f9 f10 lf g0 g1 lg z0 z1 lz fz0 fz1
     rintro V ⟨hu,bs,bo,bp,bz⟩
     have HB:=hide (And.intro hu (And.intro bs (And.intro bo (And.intro bp bz))))
     clear hu bs bo bp bz
     have s0:=(HB.out.2.1).cell 0 rfl
     have s1:=(HB.out.2.1).cell 1 rfl
     have s2:=(HB.out.2.1).cell 2 rfl
     have s3:=(HB.out.2.1).cell 3 rfl
     have ls:=(HB.out.2.1).lt
     have f0:=(HB.out.2.2.1).cell 0 rfl
     have f1:=(HB.out.2.2.1).cell 1 rfl
     have f2:=(HB.out.2.2.1).cell 2 rfl
     have f3:=(HB.out.2.2.1).cell 3 rfl
     have f4:=(HB.out.2.2.1).cell 4 rfl
     have f5:=(HB.out.2.2.1).cell 5 rfl
     have f6:=(HB.out.2.2.1).cell 6 rfl
     have f7:=(HB.out.2.2.1).cell 7 rfl
     have f8:=(HB.out.2.2.1).cell 8 rfl
     have f9:=(HB.out.2.2.1).cell 9 rfl
     have f10:=(HB.out.2.2.1).cell 10 rfl
     have lf:=(HB.out.2.2.1).lt
     have g0:=(HB.out.2.2.2.1).cell 0 rfl
     have g1:=(HB.out.2.2.2.1).cell 1 rfl
     have lg:=(HB.out.2.2.2.1).lt
     have z0:=(HB.out.2.2.2.2).cell 0 rfl
     have z1:=(HB.out.2.2.2.2).cell 1 rfl
     have lz:=(HB.out.2.2.2.2).lt
     have fz0:=(HB.out.2.2.2.2).frozen 0
     have fz1:=(HB.out.2.2.2.2).frozen 1
     refine wp_region_float (al:=[(5,8,#[.int .i64 (0),.int .i64 (0)],31)]) (mv:=fun _=>false) [6] [0,1,2,3,4] (by kernel_rfl) (by kernel_rfl) (makes1 ⟨_,rfl,rfl,fun _=>rfl,fun _ _=>by simp [go_sem]⟩) (cls_ext _) (by first | exact drew_in2 _ _ | exact drew_in _) (Nat.le_refl _) ?_
     simp only [withOps,List.filterMap_cons,List.filterMap_nil,List.getElem?_toArray,List.getElem?_cons_zero,List.getElem?_cons_succ,Option.map_some]
     (repeat (first | (apply walkF_pure (base:=fun p:Ext=>ext _ p) rfl rfl rfl (by kernel_rfl);· (intro px K hK;go_big_quiet_op;first | exact hK | (apply Exists.intro;refine ⟨fun _=>?_,?_⟩;(· ((first | (go_at_call 50;with_reducible exact Gives.inFloat (HO.out _ (Up.ext HB.out.1 _))) | (go_at_call 299;with_reducible exact Gives.inFloat (HR.out _)))));exact hK))) | (apply walkF_skip rfl;simp only [Act.put,List.setIfInBounds_toArray,List.set_cons_zero,List.set_cons_succ])))
     refine walkF_nil (end1 (fun Q U hq hU bq=>?_))
     simp only [Act.put,List.setIfInBounds_toArray,List.set_cons_zero,List.set_cons_succ]
     (try simp only [List.filterMap_cons,List.filterMap_nil,List.getElem?_toArray,List.getElem?_cons_zero,List.getElem?_cons_succ])
     have hU1:Up V U:=hU
     have HQ:=hide (And.intro (HB.out.1.trans hU1) (And.intro (HB.out.2.2.2.2.up hU1) bq))
     have hlz:=HB.out.2.2.2.2.lt
     clear s0 s1 s2 s3 ls f0 f1 f2 f3 f4 f5 f6 f7 f8 f9 f10 lf g0 g1 lg z0 z1 lz fz0 fz1
     have q0:=bq.cell 0 rfl
     have q1:=bq.cell 1 rfl
     have lq:=bq.lt
     have fq0:=bq.frozen 0
     have fq1:=bq.frozen 1
     have z0:=HQ.out.2.1.cell 0 rfl
     have z1:=HQ.out.2.1.cell 1 rfl
     have lz:=HQ.out.2.1.lt
     have fz0:=HQ.out.2.1.frozen 0
     have fz1:=HQ.out.2.1.frozen 1
     have hwQ:w.heap.size ≤ Q:=by omega
     have n1:w.heap.size + 1 + 1 + 1 ≠ Q:=by omega
     have n2:Q ≠ w.heap.size + 1 + 1 + 1:=by omega
     clear hU hU1 bq HB
     go_wp2_with fail
    · refine forgetW (fun WF=>Up w WF ∧ Box WF (w.heap.size + 1 + 1 + 1) #[.int .i64 (R1),.int .i64 (R2)] 31) ⟨(by repeat (first | with_reducible exact HQ.out.1 | with_reducible exact Up.refl _ | with_reducible apply Up.ext | with_reducible apply Up.alloc | with_reducible apply Up.drew | (with_reducible refine Up.setCell ?_ (by simp only;omega) _))),?_⟩ ?_
      · exact (by (repeat (first | with_reducible apply Box.ext | with_reducible apply Box.alloc | with_reducible apply Box.drew));exact ((((HQ.out.2.1.other (b':=Q) n1 0 (.int .i64 R1)).other (b':=Q) n1 1 (.int .i64 R2)).set 0 (.int .i64 R1)).set 1 (.int .i64 R2)))
      rintro WF ⟨huF,hbF⟩
      have w0:=hbF.cell 0 rfl
      have w1:=hbF.cell 1 rfl
      (refine bodyPost_give huF rfl ⟨_,(by simp [results,Tryz.results19,go_sem,w0,w1];rfl),?_⟩)
      rfl
    · refine forgetW (fun WF=>Up w WF ∧ Box WF (w.heap.size + 1 + 1 + 1) #[.int .i64 (0),.int .i64 (0)] 31) ⟨(by repeat (first | with_reducible exact HQ.out.1 | with_reducible exact Up.refl _ | with_reducible apply Up.ext | with_reducible apply Up.alloc | with_reducible apply Up.drew | (with_reducible refine Up.setCell ?_ (by simp only;omega) _))),?_⟩ ?_
      · exact (by (repeat (first | with_reducible apply Box.ext | with_reducible apply Box.alloc | with_reducible apply Box.drew));exact ((((HQ.out.2.1.other (b':=Q) n1 0 (.int .i64 R1)).other (b':=Q) n1 1 (.int .i64 R2)).set 0 (.int .i64 0)).set 1 (.int .i64 0)))
      rintro WF ⟨huF,hbF⟩
      have w0:=hbF.cell 0 rfl
      have w1:=hbF.cell 1 rfl
      (refine bodyPost_give huF rfl ⟨_,(by simp [results,Tryz.results19,go_sem,w0,w1];rfl),?_⟩)
      rfl
   by_cases hle:R1 ≤ R2
   · rw [if_pos hle];exact key false (by simpa using hle)
   · rw [if_neg hle];exact key true (by simpa using hle)
end Go.Proofs.YteafglginnonnaaGreat
/- The sky, the offers of the chapter's examples, and the examples that each law of layer 6 asks. No conditions. -/
namespace Go.Proofs.YteafglginnonnaaGreat
set_option linter.unusedVariables false
set_option linter.unusedSimpArgs false
open Go.RowKit Go.Shelf
def shownS:SkyD:=⟨[⟨0,0,[(0,0)]⟩],0,[(1,0,0)],[(1,0,0)]⟩
def radarO:OffD:=⟨2,1,0,0,0,0,2,100,0,3,true⟩
def scopeO:OffD:=⟨1,1,1,0,1,0,1000,1000,500000,1,false⟩
theorem Vecs.ofB {K:Nat → Prop} {w:World} {B n:Nat} {T:TypeId} {C:Array Value} {l:List (Int × Int)} (hb:Box w B C T) (hK:K B) (hn:n = l.length) (hm:l.length ≤ 1000000)
 (hC:∀ (i:Nat) (p:Int × Int),l[i]? = some p → C[i * 2]? = some (.int .i64 p.1) ∧ C[i * 2 + 1]? = some (.int .i64 p.2) ∧ I64 p.1 ∧ I64 p.2) (c:Nat):Vecs K w (.slice (some ⟨B,0,none⟩) n c) l:=by
 subst hn
 refine ⟨_,_,rfl,by omega,fun _=>⟨B,0,rfl,hK,hb.lt,fun i x hx=>?_⟩⟩
 obtain ⟨h0,h1,h2,h3⟩:=hC i x hx
 refine ⟨_,⟨rfl,h2,h3⟩,rfl,fun j u hu=>?_⟩
 match j,hu with
 | 0,hu=>cases hu;exact hb.cell _ (by simpa using h0)
 | 1,hu=>cases hu;exact hb.cell _ (by simpa using h1)
theorem Tris.ofB {K:Nat → Prop} {w:World} {B n:Nat} {T:TypeId} {C:Array Value} {l:List (Int × Int × Int)} (hb:Box w B C T) (hK:K B) (hn:n = l.length) (hm:l.length ≤ 1000000)
 (hC:∀ (i:Nat) (p:Int × Int × Int),l[i]? = some p → C[i * 3]? = some (.int .i64 p.1) ∧ C[i * 3 + 1]? = some (.int .i64 p.2.1) ∧ C[i * 3 + 2]? = some (.int .i64 p.2.2) ∧ I64 p.1 ∧ I64 p.2.1 ∧ I64 p.2.2) (c:Nat):Tris K w (.slice (some ⟨B,0,none⟩) n c) l:=by
 subst hn
 refine ⟨_,_,rfl,by omega,fun _=>⟨B,0,rfl,hK,hb.lt,fun i x hx=>?_⟩⟩
 obtain ⟨h0,h1,h2,h3⟩:=hC i x hx
 refine ⟨_,⟨rfl,h3⟩,rfl,fun j u hu=>?_⟩
 match j,hu with
 | 0,hu=>cases hu;exact hb.cell _ (by simpa using h0)
 | 1,hu=>cases hu;exact hb.cell _ (by simpa using h1)
 | 2,hu=>cases hu;exact hb.cell _ (by simpa using h2)
theorem Bods.ofB {K:Nat → Prop} {w:World} {B n:Nat} {T:TypeId} {C:Array Value} {l:List Bod} (hb:Box w B C T) (hK:K B) (hn:n = l.length) (hm:l.length ≤ 1000000)
 (hC:∀ (i:Nat) (p:Bod),l[i]? = some p → ∃ tv,C[i * 3]? = some (.int .i64 p.mu) ∧ C[i * 3 + 1]? = some (.int .i64 p.radius) ∧ C[i * 3 + 2]? = some tv ∧ I64 p.mu ∧ I64 p.radius ∧ Vecs K w tv p.track) (c:Nat):Bods K w (.slice (some ⟨B,0,none⟩) n c) l:=by
 subst hn
 refine ⟨_,_,rfl,by omega,fun _=>⟨B,0,rfl,hK,hb.lt,fun i x hx=>?_⟩⟩
 obtain ⟨tv,h0,h1,h2,h3,h4,h5⟩:=hC i x hx
 refine ⟨_,⟨tv,rfl,h3,h4,h5⟩,rfl,fun j u hu=>?_⟩
 match j,hu with
 | 0,hu=>cases hu;exact hb.cell _ (by simpa using h0)
 | 1,hu=>cases hu;exact hb.cell _ (by simpa using h1)
 | 2,hu=>cases hu;exact hb.cell _ (by simpa using h2)
theorem shown6_any (w:World):Calls Tryz.prog 15 #[] w fun e W=>∃ (a:Option Addr) (n c:Nat) (sa:Option Addr) (sn sc:Nat) (ca:Option Addr) (cn cc:Nat) (p:Ext),
 e = .returned (.agg #[.slice a n c,.int .i64 0,.slice sa sn sc,.slice ca cn cc]) ∧ SkyL (fun b=>w.heap.size ≤ b) W a n c sa sn sc ca cn cc shownS ∧ W = ext w p:=by
 go_enter Tryz.func15,Tryz.ntmps15
 go_wp2
 refine forgetW (fun W=>Up w W ∧ Box W w.heap.size #[.slice (some ⟨w.heap.size + 1 + 1,0,none⟩) 1 1,.int .i64 0,.slice (some ⟨w.heap.size + 1 + 1 + 1,0,none⟩) 1 1,.slice (some ⟨w.heap.size + 1 + 1 + 1 + 1,0,none⟩) 1 1] 29 ∧ Box W (w.heap.size + 1) #[.int .i64 (0),.int .i64 (0)] 48 ∧
  Box W (w.heap.size + 1 + 1) #[.int .i64 0,.int .i64 0,.slice (some ⟨w.heap.size + 1,0,none⟩) 1 1] 110 ∧ Box W (w.heap.size + 1 + 1 + 1) #[.int .i64 (1),.int .i64 (0),.int .i64 (0)] 112 ∧ Box W (w.heap.size + 1 + 1 + 1 + 1) #[.int .i64 (1),.int .i64 (0),.int .i64 (0)] 114) ⟨(by repeat (first | with_reducible exact Up.refl _ | with_reducible apply Up.plus | apply Up.ext | apply Up.alloc | apply Up.drew | (refine Up.setCell ?_ (by simp;try omega) _))),(by repeat (first | exact Box.mk rfl | (refine Box.mk ?_;simp;done) | apply Box.ext | apply Box.drew | apply Box.alloc | apply Box.two1 | (refine Box.other ?_ (by omega) _ _))),(by repeat (first | exact Box.mk rfl | (refine Box.mk ?_;simp;done) | apply Box.ext | apply Box.drew | apply Box.alloc | apply Box.two1 | (refine Box.other ?_ (by omega) _ _))),(by repeat (first | exact Box.mk rfl | (refine Box.mk ?_;simp;done) | apply Box.ext | apply Box.drew | apply Box.alloc | apply Box.two1 | (refine Box.other ?_ (by omega) _ _))),(by repeat (first | exact Box.mk rfl | (refine Box.mk ?_;simp;done) | apply Box.ext | apply Box.drew | apply Box.alloc | apply Box.two1 | (refine Box.other ?_ (by omega) _ _))),(by repeat (first | exact Box.mk rfl | (refine Box.mk ?_;simp;done) | apply Box.ext | apply Box.drew | apply Box.alloc | apply Box.two1 | (refine Box.other ?_ (by omega) _ _)))⟩ ?_
 rintro W ⟨⟨p,hp⟩,b0,b1,b2,b3,b4⟩
 have c0:=b0.cell 0 rfl
 have c1:=b0.cell 1 rfl
 have c2:=b0.cell 2 rfl
 have c3:=b0.cell 3 rfl
 refine bodyPost_ret (v:=.agg #[.slice (some ⟨w.heap.size + 1 + 1,0,none⟩) 1 1,.int .i64 0,.slice (some ⟨w.heap.size + 1 + 1 + 1,0,none⟩) 1 1,.slice (some ⟨w.heap.size + 1 + 1 + 1 + 1,0,none⟩) 1 1]) (by simp [results,Tryz.results15,go_sem,c0,c1,c2,c3]) rfl ⟨_,_,_,_,_,_,_,_,_,p,rfl,?_,hp⟩
 have i0:I64 0:=⟨by decide,by decide⟩
 have i1:I64 1:=⟨by decide,by decide⟩
 have v1:Vecs (fun b=>w.heap.size ≤ b) W (.slice (some ⟨w.heap.size + 1,0,none⟩) 1 1) [(0,0)]:=Vecs.ofB (K:=fun b=>w.heap.size ≤ b) (l:=[(0,0)]) b1 (by show _ ≤ _;omega) rfl (by decide) (fun i q hq=>by
  match i,hq with
  | 0,hq=>cases hq;exact ⟨rfl,rfl,i0,i0⟩) 1
 exact ⟨Bods.ofB (K:=fun b=>w.heap.size ≤ b) (l:=[⟨0,0,[(0,0)]⟩]) b2 (by show _ ≤ _;omega) rfl (by decide) (fun i q hq=>by
  match i,hq with
  | 0,hq=>cases hq;exact ⟨_,rfl,rfl,rfl,i0,i0,v1⟩) 1,i0,
  Tris.ofB (K:=fun b=>w.heap.size ≤ b) (l:=[(1,0,0)]) b3 (by show _ ≤ _;omega) rfl (by decide) (fun i q hq=>by
   match i,hq with
   | 0,hq=>cases hq;exact ⟨rfl,rfl,rfl,i1,i0,i0⟩) 1,
  Tris.ofB (K:=fun b=>w.heap.size ≤ b) (l:=[(1,0,0)]) b4 (by show _ ≤ _;omega) rfl (by decide) (fun i q hq=>by
   match i,hq with
   | 0,hq=>cases hq;exact ⟨rfl,rfl,rfl,i1,i0,i0⟩) 1⟩
theorem radar6_any (w:World):Gives Tryz.prog 16 #[] w (.agg (offA radarO)):=by
 (unfold Gives;go_enter Tryz.func16,Tryz.ntmps16)
 go_wp2
 all_goals (refine bodyPost_give (by repeat (first | with_reducible exact Up.refl _ | with_reducible apply Up.plus | apply Up.ext | apply Up.alloc | apply Up.drew | (refine Up.setCell ?_ (by simp;try omega) _))) rfl ⟨_,(by simp [results,Tryz.results16,go_sem];rfl),?_⟩)
 all_goals rfl
theorem scope6_any (w:World):Gives Tryz.prog 17 #[] w (.agg (offA scopeO)):=by
 (unfold Gives;go_enter Tryz.func17,Tryz.ntmps17)
 go_wp2
 all_goals (refine bodyPost_give (by repeat (first | with_reducible exact Up.refl _ | with_reducible apply Up.plus | apply Up.ext | apply Up.alloc | apply Up.drew | (refine Up.setCell ?_ (by simp;try omega) _))) rfl ⟨_,(by simp [results,Tryz.results17,go_sem];rfl),?_⟩)
 all_goals rfl
theorem awake6_view:viewV shownS scopeO (100,200,10,20) = ((true,true,49000,201000),0):=by decide +kernel
theorem awake6_reads:readsV shownS radarO (60,80) = ((98,102),true):=by decide +kernel
set_option maxRecDepth 100000 in
set_option maxHeartbeats 2000000 in
theorem awake6_any (w:World):Gives Tryz.prog 11 #[] w (.bool true):=by
 have H1:∀ (K:Nat → Prop) (W0 W:World) (a:Option Addr) (n c:Nat) (sa:Option Addr) (sn sc:Nat) (ca:Option Addr) (cn cc:Nat),SkyL K W0 a n c sa sn sc ca cn cc shownS → Up W0 W →
  Gives Tryz.prog 21 #[.agg #[.slice a n c,.int .i64 0,.slice sa sn sc,.slice ca cn cc],.agg (offA scopeO),.agg #[.int .i64 (100),.int .i64 (200),.int .i64 (10),.int .i64 (20)]] W (.tuple #[.agg #[.bool true,.bool true,.int .i64 49000,.int .i64 201000],.int .i64 0]):=fun K W0 W a n c sa sn sc ca cn cc h hu=>by
  have:=wView_any (h.up hu) scopeO (100,200,10,20)
  rw [awake6_view] at this
  exact this
 have H2:∀ (K:Nat → Prop) (W0 W:World) (a:Option Addr) (n c:Nat) (sa:Option Addr) (sn sc:Nat) (ca:Option Addr) (cn cc:Nat),SkyL K W0 a n c sa sn sc ca cn cc shownS → Up W0 W →
  Gives Tryz.prog 19 #[.agg #[.slice a n c,.int .i64 0,.slice sa sn sc,.slice ca cn cc],.agg (offA radarO),.agg #[.int .i64 (60),.int .i64 (80)]] W (.tuple #[.agg #[.int .i64 (98),.int .i64 (102)],.bool true]):=fun K W0 W a n c sa sn sc ca cn cc h hu=>by
  have:=wReads_any (h.up hu) radarO (60,80)
  rw [awake6_reads] at this
  exact this
 have K1:=hide H1
 have K2:=hide H2
 clear H1 H2
 (unfold Gives;go_enter Tryz.func11,Tryz.ntmps11)
 go_wp2_with (first | (go_at_call 15;refine (shown6_any _).mono ?_;rintro _ _ ⟨a,n,c,sa,sn,sc,ca,cn,cc,px,rfl,hb,rfl⟩) | (go_at_call 17;refine (scope6_any _).mono ?_;intro _) | (go_at_call 16;refine (radar6_any _).mono ?_;intro _) | (go_at_call 20;refine (xarea6_any _ _ _ _ _).mono ?_;intro _) | (go_at_call 21;refine (K1.out _ _ _ _ _ _ _ _ _ _ _ _ (by assumption) (by repeat (first | with_reducible exact Up.refl _ | with_reducible apply Up.plus | apply Up.ext | apply Up.alloc | apply Up.drew | (refine Up.setCell ?_ (by simp;try omega) _)))).mono ?_;intro _) | (go_at_call 19;refine (K2.out _ _ _ _ _ _ _ _ _ _ _ _ (by assumption) (by repeat (first | with_reducible exact Up.refl _ | with_reducible apply Up.plus | apply Up.ext | apply Up.alloc | apply Up.drew | (refine Up.setCell ?_ (by simp;try omega) _)))).mono ?_;intro _))
 go_ret
 exact ⟨rfl,(by repeat (first | with_reducible exact Up.refl _ | with_reducible apply Up.plus | apply Up.ext | apply Up.alloc | apply Up.drew | (refine Up.setCell ?_ (by simp;try omega) _)))⟩
end Go.Proofs.YteafglginnonnaaGreat
