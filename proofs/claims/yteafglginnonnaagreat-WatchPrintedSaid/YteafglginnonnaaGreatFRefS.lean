/- Several texts in one. -/
import Derived.Test.YteafglginnonnaaGreatForceM
import Derived.Test.YteafglginnonnaaGreatSkyR
import Derived.Test.YteafglginnonnaaGreatRootR
import Derived.Test.YteafglginnonnaaGreatForceE
import Derived.Test.YteafglginnonnaaGreatRingF
/- The reference of package force: errors of drifts and questions, operations on spans. Conditions: what lies in memory. -/
set_option linter.unusedVariables false
set_option linter.unusedSimpArgs false
namespace Go.Proofs.YteafglginnonnaaGreat
set_option maxHeartbeats 8000000
set_option maxRecDepth 100000
open Go.RowKit Go.Shelf
theorem g_between (n lo hi:Int) (w:World):Gives Tryz.prog 198 #[.int .i64 n,.int .i64 lo,.int .i64 hi] w (.bool (withinB n lo hi)):=by
 (unfold Gives;go_enter Tryz.func198,Tryz.ntmps198)
 go_wp2
 all_goals go_ret
 all_goals refine ⟨ret_bool ?_,Up.refl _⟩
 all_goals (simp [withinB];omega)
theorem g_part (a b lo hi:Int) (w:World):Gives Tryz.prog 197 #[.agg #[.int .i64 a,.int .i64 b],.int .i64 lo,.int .i64 hi] w (.int .i64 (boundedE a b lo hi)):=by
 (unfold Gives;go_enter Tryz.func197,Tryz.ntmps197)
 go_wp2
 all_goals (go_ret;refine ⟨ret_int ?_,Up.go⟩)
 all_goals (go_light;first|(simp_all [boundedE];done)|(simp_all [boundedE];omega)|(simp_all [boundedE];repeat' split;all_goals (first|(simp_all;done)|omega|(simp_all;omega))))
theorem g_drift (a b c d g:Int) (w:World):Gives Tryz.prog 178 #[.agg #[.int .i64 a,.int .i64 b,.int .i64 c,.int .i64 d,.int .i64 g]] w (.int .i64 (driftE (a,b) (c,d) g)):=by
 (unfold Gives;go_enter Tryz.func178,Tryz.ntmps178)
 go_wp2_with (first|(go_at_call 197;refine (g_part _ _ _ _ _).mono ?_;intro _)|(go_at_call 198;refine (g_between _ _ _ _).mono ?_;intro _))
 all_goals (go_ret;refine ⟨ret_int ?_,Up.go⟩)
 all_goals (go_light;first|(simp_all [driftE];done)|(simp_all [driftE];omega)|(simp_all [driftE];repeat' split;all_goals (first|(simp_all;done)|omega|(simp_all;omega))))
theorem g_limits (a b:Int) (w:World):Gives Tryz.prog 203 #[.agg #[.int .i64 a,.int .i64 b]] w (.bool (limB a b)):=by
 (unfold Gives;go_enter Tryz.func203,Tryz.ntmps203)
 go_wp2
 all_goals go_ret
 all_goals refine ⟨ret_bool ?_,Up.go⟩
 all_goals (simp [limB];omega)
theorem g_sum (a b:Sp) (w:World):Gives Tryz.prog 187 #[.agg #[.int .i64 a.1,.int .i64 a.2],.agg #[.int .i64 b.1,.int .i64 b.2]] w (.agg #[.int .i64 (addP a b).1,.int .i64 (addP a b).2]):=by
 (unfold Gives;go_enter Tryz.func187,Tryz.ntmps187)
 go_wp2_with (go_at_call 211;refine (radd_any _ _ _ _ _).mono ?_;intro _)
 all_goals (refine bodyPost_give Up.go rfl ⟨_,(by simp [results,Tryz.results187,go_sem];rfl),?_⟩)
 all_goals rfl
theorem g_less (a b:Sp) (w:World):Gives Tryz.prog 223 #[.agg #[.int .i64 a.1,.int .i64 a.2],.agg #[.int .i64 b.1,.int .i64 b.2]] w (.agg #[.int .i64 (subP a b).1,.int .i64 (subP a b).2]):=by
 (unfold Gives;go_enter Tryz.func223,Tryz.ntmps223)
 go_wp2_with (go_at_call 239;refine (rsub_any _ _ _ _ _).mono ?_;intro _)
 all_goals (refine bodyPost_give Up.go rfl ⟨_,(by simp [results,Tryz.results223,go_sem];rfl),?_⟩)
 all_goals rfl
theorem g_product (a b:Sp) (w:World):Gives Tryz.prog 222 #[.agg #[.int .i64 a.1,.int .i64 a.2],.agg #[.int .i64 b.1,.int .i64 b.2]] w (.agg #[.int .i64 (mulP a b).1,.int .i64 (mulP a b).2]):=by
 (unfold Gives;go_enter Tryz.func222,Tryz.ntmps222)
 go_wp2_with (go_at_call 238;refine (rmul_any _ _ _ _ _).mono ?_;intro _)
 all_goals (refine bodyPost_give Up.go rfl ⟨_,(by simp [results,Tryz.results222,go_sem];rfl),?_⟩)
 all_goals rfl
theorem g_quotient (a b:Sp) (w:World):Gives Tryz.prog 209 #[.agg #[.int .i64 a.1,.int .i64 a.2],.agg #[.int .i64 b.1,.int .i64 b.2]] w (.agg #[.int .i64 (quotP a b).1,.int .i64 (quotP a b).2]):=by
 (unfold Gives;go_enter Tryz.func209,Tryz.ntmps209)
 go_wp2_with (go_at_call 226;refine (rquot_any _ _ _ _ _).mono ?_;intro _)
 all_goals (refine bodyPost_give Up.go rfl ⟨_,(by simp [results,Tryz.results209,go_sem];rfl),?_⟩)
 all_goals rfl
theorem g_squared (a:Sp) (w:World):Gives Tryz.prog 224 #[.agg #[.int .i64 a.1,.int .i64 a.2]] w (.agg #[.int .i64 (squareP a).1,.int .i64 (squareP a).2]):=by
 (unfold Gives;go_enter Tryz.func224,Tryz.ntmps224)
 go_wp2_with (go_at_call 240;refine (rsquareS_any _ _ _).mono ?_;intro _)
 all_goals (refine bodyPost_give Up.go rfl ⟨_,(by simp [results,Tryz.results224,go_sem];rfl),?_⟩)
 all_goals rfl
theorem g_less4 (a b c d:Int) (w:World):Gives Tryz.prog 223 #[.agg #[.int .i64 a,.int .i64 b],.agg #[.int .i64 c,.int .i64 d]] w (.agg #[.int .i64 (subP (a,b) (c,d)).1,.int .i64 (subP (a,b) (c,d)).2]):=g_less (a,b) (c,d) w
theorem g_sum4 (a b c d:Int) (w:World):Gives Tryz.prog 187 #[.agg #[.int .i64 a,.int .i64 b],.agg #[.int .i64 c,.int .i64 d]] w (.agg #[.int .i64 (addP (a,b) (c,d)).1,.int .i64 (addP (a,b) (c,d)).2]):=g_sum (a,b) (c,d) w
theorem g_product4 (a b c d:Int) (w:World):Gives Tryz.prog 222 #[.agg #[.int .i64 a,.int .i64 b],.agg #[.int .i64 c,.int .i64 d]] w (.agg #[.int .i64 (mulP (a,b) (c,d)).1,.int .i64 (mulP (a,b) (c,d)).2]):=g_product (a,b) (c,d) w
theorem g_quotient4 (a b c d:Int) (w:World):Gives Tryz.prog 209 #[.agg #[.int .i64 a,.int .i64 b],.agg #[.int .i64 c,.int .i64 d]] w (.agg #[.int .i64 (quotP (a,b) (c,d)).1,.int .i64 (quotP (a,b) (c,d)).2]):=g_quotient (a,b) (c,d) w
theorem g_squared2 (a b:Int) (w:World):Gives Tryz.prog 224 #[.agg #[.int .i64 a,.int .i64 b]] w (.agg #[.int .i64 (squareP (a,b)).1,.int .i64 (squareP (a,b)).2]):=g_squared (a,b) w
theorem g_minus (a b:Int) (a0:-9223372036854775807≤a) (a1:a≤9223372036854775807) (b0:-9223372036854775807≤b) (b1:b≤9223372036854775807) (w:World):Gives Tryz.prog 204 #[.agg #[.int .i64 a,.int .i64 b]] w (.agg #[.int .i64 (-b),.int .i64 (-a)]):=by
 (unfold Gives;go_enter Tryz.func204,Tryz.ntmps204)
 go_wp2
 all_goals (refine bodyPost_give Up.go rfl ⟨_,(by simp [results,Tryz.results204,go_sem];rfl),?_⟩)
 all_goals rfl
theorem g_bounded (s:Sp) (w:World):Gives Tryz.prog 208 #[.agg #[.int .i64 s.1,.int .i64 s.2]] w (.agg #[.int .i64 (clampP s).1,.int .i64 (clampP s).2]):=by
 obtain ⟨a,b⟩:=s
 (unfold Gives;go_enter Tryz.func208,Tryz.ntmps208)
 go_wp2
 all_goals (refine bodyPost_give Up.go rfl ⟨_,(by simp [results,Tryz.results208,go_sem];rfl),?_⟩)
 all_goals (go_light;first|(simp_all [clampP];done)|(simp_all [clampP];omega)|(simp_all [clampP];repeat' split;all_goals (first|(simp_all;done)|omega|(simp_all;omega))))
theorem g_thousandth (a b c d:Int) (w:World):Gives Tryz.prog 205 #[.agg #[.int .i64 a,.int .i64 b],.agg #[.int .i64 c,.int .i64 d]] w (.agg #[.int .i64 (partP (a,b) (c,d)).1,.int .i64 (partP (a,b) (c,d)).2]):=by
 (unfold Gives;go_enter Tryz.func205,Tryz.ntmps205)
 go_wp2_with fail
 try ((first | with_reducible refine wp_region_ext_tail2 1 (by kernel_rfl) (by kernel_rfl) ?_ | refine wp_region_ext_tail 1 (by kernel_rfl) (by kernel_rfl) ?_);simp only [List.length_cons,List.length_nil,Nat.reduceAdd,Nat.reduceSub,List.take_succ_cons,List.take_zero,List.drop_succ_cons,List.drop_zero];(repeat (go_big_quiet_step ((first | (go_at_call 222;with_reducible exact Gives.inRegion (g_product4 _ _ _ _ _)) | (go_at_call 209;with_reducible exact Gives.inRegion (g_quotient4 _ _ _ _ _))))));refine wpQuiet_nil ?_;intro _ hw';obtain ⟨_,hw''⟩:=hw';subst hw'')
 go_wp2_with (first|(go_at_call 222;(with_reducible refine (g_product4 _ _ _ _ _).mono ?_);intro _)|(go_at_call 209;(with_reducible refine (g_quotient4 _ _ _ _ _).mono ?_);intro _))
 all_goals (refine bodyPost_give Up.go rfl ⟨_,(by simp [results,Tryz.results205,go_sem];rfl),?_⟩)
 all_goals rfl
theorem g_asked {K:Nat→Prop} {w:World} {a:Option Addr} {n c:Nat} {bs:List Bod} {home:Int} (hl:Bods K w (.slice a n c) bs) (hh:I64 home) (l h:Sp) (g t:Int) (x0 x1 y0 y1:Int) :
 Gives Tryz.prog 183 #[.agg #[.slice a n c,.int .i64 home],.agg #[.int .i64 l.1,.int .i64 l.2,.int .i64 h.1,.int .i64 h.2,.int .i64 g],.int .i64 t,.agg #[.int .i64 x0,.int .i64 x1,.int .i64 y0,.int .i64 y1]] w
  (.int .i64 (askedE bs home l h g t (x0,x1,y0,y1))):=by
 have HW:=hide (fun W (hu:Up w W)=>sworld_any (hl.keeps (hu.keeps K)) hh)
 have HD:=hide (fun W=>g_drift l.1 l.2 h.1 h.2 g W)
 have HT:=hide (fun W=>g_between t 0 1073741824 W)
 have HA:=hide (fun W=>rcheckarea_any x0 x1 y0 y1 W)
 have HL1:=hide (fun W=>g_limits x0 x1 W)
 have HL2:=hide (fun W=>g_limits y0 y1 W)
 clear hl
 unfold askedE
 by_cases e1:worldE bs home=0
 rotate_left
 · rw [if_neg e1]
   have e1b:(worldE bs home != 0)=true:=by simp [e1]
   clear e1
   (unfold Gives;go_enter Tryz.func183,Tryz.ntmps183)
   go_wp2_with (go_at_call 143;refine (HW.out _ Up.go).mono ?_;intro _)
   go_ret
   exact ⟨rfl,Up.go⟩
 rw [if_pos e1]
 rw [e1] at HW
 clear e1
 by_cases e2:driftE l h g=0
 rotate_left
 · rw [if_neg e2]
   have e2b:(driftE l h g != 0)=true:=by simp [e2]
   clear e2
   (unfold Gives;go_enter Tryz.func183,Tryz.ntmps183)
   go_wp2_with (first|(go_at_call 143;refine (HW.out _ Up.go).mono ?_;intro _)|(go_at_call 178;refine (HD.out _).mono ?_;intro _))
   go_ret
   exact ⟨rfl,Up.go⟩
 rw [if_pos e2]
 rw [e2] at HD
 clear e2
 rcases e3:withinB t 0 1073741824 with _ | _
 · rw [e3] at HT
   clear e3
   simp only [Bool.false_eq_true,if_false]
   (unfold Gives;go_enter Tryz.func183,Tryz.ntmps183)
   go_wp2_with (first|(go_at_call 143;refine (HW.out _ Up.go).mono ?_;intro _)|(go_at_call 178;refine (HD.out _).mono ?_;intro _)|(go_at_call 198;refine (HT.out _).mono ?_;intro _))
   go_ret
   exact ⟨rfl,Up.go⟩
 rw [e3] at HT
 clear e3
 simp only [if_true]
 by_cases e4:areaE x0 x1 y0 y1=0
 rotate_left
 · rw [if_neg e4]
   have e4b:(areaE x0 x1 y0 y1 != 0)=true:=by simp [e4]
   clear e4
   (unfold Gives;go_enter Tryz.func183,Tryz.ntmps183)
   go_wp2_with (first|(go_at_call 143;refine (HW.out _ Up.go).mono ?_;intro _)|(go_at_call 178;refine (HD.out _).mono ?_;intro _)|(go_at_call 198;refine (HT.out _).mono ?_;intro _)|(go_at_call 202;refine (HA.out _).mono ?_;intro _))
   go_ret
   exact ⟨rfl,Up.go⟩
 rw [if_pos e4]
 rw [e4] at HA
 clear e4
 generalize limB x0 x1=m1 at *
 generalize limB y0 y1=m2 at *
 cases m1 <;> cases m2
 all_goals (
  (unfold Gives;go_enter Tryz.func183,Tryz.ntmps183)
  go_wp2_with (first|(go_at_call 143;refine (HW.out _ Up.go).mono ?_;intro _)|(go_at_call 178;refine (HD.out _).mono ?_;intro _)|(go_at_call 198;refine (HT.out _).mono ?_;intro _)|(go_at_call 202;refine (HA.out _).mono ?_;intro _)|(go_at_call 203;(with_reducible refine (HL1.out _).mono ?_);intro _)|(go_at_call 203;(with_reducible refine (HL2.out _).mono ?_);intro _))
  go_ret
  exact ⟨rfl,Up.go⟩)
theorem g_to (p1 p2 a b c d:Int) (w:World):Gives Tryz.prog 206 #[.agg #[.int .i64 (p1),.int .i64 (p2)],.agg #[.int .i64 (a),.int .i64 (b),.int .i64 (c),.int .i64 (d)]] w
 (.tuple #[.agg #[.int .i64 (subP (p1,p1) (a,b)).1,.int .i64 (subP (p1,p1) (a,b)).2],.agg #[.int .i64 (subP (p2,p2) (c,d)).1,.int .i64 (subP (p2,p2) (c,d)).2]]):=by
 (unfold Gives;go_enter Tryz.func206,Tryz.ntmps206)
 go_wp2_with fail
 ((first | with_reducible refine wp_region_ext_tail2 2 (by kernel_rfl) (by kernel_rfl) ?_ | refine wp_region_ext_tail 2 (by kernel_rfl) (by kernel_rfl) ?_);simp only [List.length_cons,List.length_nil,Nat.reduceAdd,Nat.reduceSub,List.take_succ_cons,List.take_zero,List.drop_succ_cons,List.drop_zero];(repeat (go_big_quiet_step ((go_at_call 223;with_reducible exact Gives.inRegion (g_less4 _ _ _ _ _)))));refine wpQuiet_nil ?_;intro _ hw';obtain ⟨_,hw''⟩:=hw';subst hw'')
 go_wp2
 all_goals (refine bodyPost_give Up.go rfl ⟨_,(by simp [results,Tryz.results206,go_sem];rfl),?_⟩)
 all_goals rfl
theorem g_dist (mu r:Int) (tv:Value) (v1 v2 v3 v4:Int) (r0:0≤r) (r1:r≤1048576) (w:World):Gives Tryz.prog 207 #[.agg #[.int .i64 mu,.int .i64 r,tv],.agg #[.int .i64 (v1),.int .i64 (v2)],.agg #[.int .i64 (v3),.int .i64 (v4)]] w
 (.tuple #[.agg #[.int .i64 (sqP r (v1,v2,v3,v4)).1,.int .i64 (sqP r (v1,v2,v3,v4)).2],.agg #[.int .i64 (distP r (v1,v2,v3,v4)).1,.int .i64 (distP r (v1,v2,v3,v4)).2]]):=by
 have h1:0≤r*r:=Int.mul_nonneg r0 r0
 have h2:r*r≤1099511627776:=by have:=Int.mul_le_mul r1 r1 r0 (by omega);omega
 (unfold Gives;go_enter Tryz.func207,Tryz.ntmps207)
 go_wp2_with fail
 ((first | with_reducible refine wp_region_ext_tail2 1 (by kernel_rfl) (by kernel_rfl) ?_ | refine wp_region_ext_tail 1 (by kernel_rfl) (by kernel_rfl) ?_);simp only [List.length_cons,List.length_nil,Nat.reduceAdd,Nat.reduceSub,List.take_succ_cons,List.take_zero,List.drop_succ_cons,List.drop_zero];(repeat (go_big_quiet_step ((first | (go_at_call 224;with_reducible exact Gives.inRegion (g_squared2 _ _ _)) | (go_at_call 187;with_reducible exact Gives.inRegion (g_sum4 _ _ _ _ _))))));refine wpQuiet_nil ?_;intro _ hw';obtain ⟨_,hw''⟩:=hw';subst hw'')
 go_wp2_with (go_at_call 225;refine (rroots_any _ _ _).mono ?_;intro _)
 refine forgetW (fun W=>Up w W∧Box W (w.heap.size+1+1+1) #[.int .i64 (sqP r ((v1,v2,v3,v4))).1,.int .i64 (sqP r ((v1,v2,v3,v4))).2] 31∧Box W (w.heap.size+1+1+1+1) #[.int .i64 (distP r ((v1,v2,v3,v4))).1,.int .i64 (distP r ((v1,v2,v3,v4))).2] 31) ⟨Up.go,?_,?_⟩ ?_
 · unfold sqP edgeV;exact Box.go
 · unfold distP rootsP sqP edgeV;exact Box.go
 rintro W ⟨hu,b1,b2⟩
 obtain ⟨c0,c1⟩:=b1.c2
 obtain ⟨c2,c3⟩:=b2.c2
 obtain ⟨f0,f1⟩:=b1.f2
 obtain ⟨f2,f3⟩:=b2.f2
 have l1:=b1.lt
 have l2:=b2.lt
 have HB:=hide (And.intro hu (And.intro b1 b2))
 clear hu b1 b2 h1 h2
 go_region
 all_goals go_wp2
 have q:=(((((HB.out.2.1.set 0 (.int .i64 (sqP r (v1,v2,v3,v4)).1)).set 1 (.int .i64 (sqP r (v1,v2,v3,v4)).2)).other (b':=w.heap.size+1+1+1+1) (by omega) 0 (.int .i64 (distP r (v1,v2,v3,v4)).1)).other (b':=w.heap.size+1+1+1+1) (by omega) 1 (.int .i64 (distP r (v1,v2,v3,v4)).2)).drew)
 have s:=(((((HB.out.2.2.other (b':=w.heap.size+1+1+1) (by omega) 0 (.int .i64 (sqP r (v1,v2,v3,v4)).1)).other (b':=w.heap.size+1+1+1) (by omega) 1 (.int .i64 (sqP r (v1,v2,v3,v4)).2)).set 0 (.int .i64 (distP r (v1,v2,v3,v4)).1)).set 1 (.int .i64 (distP r (v1,v2,v3,v4)).2)).drew)
 have q0:=q.cell 0 (v:=.int .i64 (sqP r (v1,v2,v3,v4)).1) rfl
 have q1:=q.cell 1 (v:=.int .i64 (sqP r (v1,v2,v3,v4)).2) rfl
 have s0:=s.cell 0 (v:=.int .i64 (distP r (v1,v2,v3,v4)).1) rfl
 have s1:=s.cell 1 (v:=.int .i64 (distP r (v1,v2,v3,v4)).2) rfl
 clear q s
 (refine bodyPost_give (Up.via HB.out.1) rfl ⟨_,(by simp [results,Tryz.results207,go_sem,q0,q1,s0,s1];rfl),?_⟩)
 rfl
def mdR (mu:Int) (x q:Sp) (k:Nat):Sp:=mdP mu (if k / 2=0 then x.1 else x.2) (if k % 2=0 then q.1 else q.2)
def accR (m:Nat→Sp):Nat→Sp
 | 0=>(0,0)
 | 1=>m 0
 | k+2=>hullP (accR m (k+1)) (m (k+1))
theorem accR_four (mu:Int) (x q:Sp):accR (mdR mu x q) 4=scaledP mu x q:=by
 unfold scaledP
 simp only [accR,hullP,mdR]
 apply Prod.ext <;> simp <;> omega
theorem md_err {mu n d:Int} (h:(mulDivE mu n d).2.2=0):mdP mu n d=((mulDivE mu n d).1,(mulDivE mu n d).2.1):=by unfold mdP;rw [if_pos h]
def ScS (w:World) (m:Nat→Sp) (x q:Sp) (j:Nat) (wr:World):Prop :=
 Up w wr∧Box wr (w.heap.size+1) #[.int .i64 q.1,.int .i64 q.2] 31∧Box wr (w.heap.size+1+1) #[.int .i64 (0),.int .i64 (0)] 31∧Box wr (w.heap.size+1+1+1) #[.int .i64 (accR m j).1,.int .i64 (accR m j).2] 31∧Box wr (w.heap.size+1+1+1+1) #[.int .i64 x.1,.int .i64 x.2] 2
theorem sc_x {mu:Int} {x q:Sp} {X:Nat} {W:World} {T:TypeId} (hx:Box W X #[.int .i64 x.1,.int .i64 x.2] T) {i:Nat} (hi:i<2):∃ xi:Int,W.cell? ⟨X,i,none⟩=some (.int .i64 xi)∧∀ k,k<2→mdR mu x q (2*i+k)=mdP mu xi (if k=0 then q.1 else q.2):=by
 match i,hi with
 | 0,_ =>
  refine ⟨x.1,hx.cell 0 rfl,fun k hk=>?_⟩
  match k,hk with
  | 0,_=>rfl
  | 1,_=>rfl
 | 1,_ =>
  refine ⟨x.2,hx.cell 1 rfl,fun k hk=>?_⟩
  match k,hk with
  | 0,_=>rfl
  | 1,_=>rfl
theorem sc_q {q:Sp} {Y:Nat} {W:World} {T:TypeId} (hq:Box W Y #[.int .i64 q.1,.int .i64 q.2] T) {k:Nat} (hk:k<2):W.cell? ⟨Y,k,none⟩=some (.int .i64 (if k=0 then q.1 else q.2)):=by
 match k,hk with
 | 0,_=>exact hq.cell 0 rfl
 | 1,_=>exact hq.cell 1 rfl
theorem accR_one {m:Nat→Sp} {L H:Int} (h:m 0=(L,H)):accR m (0+1)=(L,H):=h
theorem accR_next {m:Nat→Sp} {j:Nat} (hj:j≠0) {L H O1 O2:Int} (ha:accR m j=(O1,O2)) (h:m j=(L,H)):accR m (j+1)=(min O1 L,max O2 H):=by
 match j,hj with
 | k+1,_ =>
  show hullP (accR m (k+1)) (m (k+1))=_
  rw [ha,h]
  rfl
theorem g_scaled (mu:Int) (x1 x2 q1 q2:Int) (w:World):Gives Tryz.prog 210 #[.int .i64 mu,.agg #[.int .i64 (x1),.int .i64 (x2)],.agg #[.int .i64 (q1),.int .i64 (q2)]] w (.agg #[.int .i64 (scaledP mu (x1,x2) (q1,q2)).1,.int .i64 (scaledP mu (x1,x2) (q1,q2)).2]):=by
 rw [← accR_four]
 obtain ⟨m,hm⟩:∃ m,mdR mu (x1,x2) (q1,q2)=m:=⟨_,rfl⟩
 rw [hm]
 have HM:=hide hm
 clear hm
 (unfold Gives;go_enter Tryz.func210,Tryz.ntmps210)
 go_wp2
 go_loopw [8,22] (fun s8 s22 wr=>∃ i:Nat,s22=.int .i64 i∧i≤2∧s8=.bool (i==0)∧Hid (ScS w m (x1,x2) (q1,q2) (2*i) wr)) (fun _ s _=>2 - (intOf s).toNat)
 case atStart=>exact ⟨0,by go_num,by omega,rfl,hide ⟨Up.go,Box.go,Box.go,Box.go,Box.go⟩⟩
 case round =>
  obtain ⟨i,rfl,hi,rfl,hS⟩:=hrel
  obtain ⟨hu,bq,bz,bo,bx⟩:=hS.out
  by_cases hlt:i<2
  · have hib:decide ((i:Int)<2)=true:=by simp;omega
    have hin:decide (i<2)=true:=by simp;omega
    obtain ⟨xi,cx,hxi⟩:=sc_x (mu:=mu) (q:=(q1,q2)) bx hlt
    obtain ⟨cq0,cq1⟩:=bq.c2
    have lx:=bx.lt
    have HXI:=hide hxi
    clear hxi
    have HB:=hide (And.intro hu (And.intro bq (And.intro bz (And.intro bo bx))))
    clear hS hu bq bz bo bx
    go_wp2_with fail
    refine forgetW (fun Z=>Up wr Z∧Box Z wr.heap.size #[.int .i64 (q1),.int .i64 (q2)] 2) ⟨Up.go,Box.mk rfl⟩ ?_
    rintro Z ⟨hZ,by0⟩
    obtain ⟨Y,hY⟩:∃ Y,wr.heap.size=Y:=⟨_,rfl⟩
    rw [hY] at by0 ⊢
    have hYw:w.heap.size+1+1+1+1<Y:=by omega
    have hS0:=hide (show ScS w m (x1,x2) (q1,q2) (2*i+0) Z from ⟨HB.out.1.trans hZ,HB.out.2.1.up hZ,HB.out.2.2.1.up hZ,HB.out.2.2.2.1.up hZ,HB.out.2.2.2.2.up hZ⟩)
    have hY0:=hide by0
    clear hZ by0 HB cx cq0 cq1 lx hY
    go_loopw [8,32] (fun s8 s32 w2=>∃ k:Nat,s32=.int .i64 k∧k≤2∧s8=.bool (2*i+k==0)∧Hid (ScS w m (x1,x2) (q1,q2) (2*i+k) w2∧Box w2 Y #[.int .i64 (q1),.int .i64 (q2)] 2)) (fun _ s _=>2 - (intOf s).toNat)
    case atStart=>exact ⟨0,by go_num,by omega,by cases i <;> simp,hide ⟨hS0.out,hY0.out⟩⟩
    case round =>
     obtain ⟨k,rfl,hk,rfl,hT⟩:=hrel
     clear hS0 hY0
     obtain ⟨⟨hu,bq,bz,bo,bx⟩,by0⟩:=hT.out
     by_cases hlk:k<2
     · have hkb:decide ((k:Int)<2)=true:=by simp;omega
       have hkn:decide (k<2)=true:=by simp;omega
       obtain ⟨qk,hqk⟩:∃ x,(if k=0 then q1 else q2)=x:=⟨_,rfl⟩
       have ck:=sc_q (q:=(q1,q2)) by0 hlk
       have hmd:=HXI.out k hlk
       rw [HM.out] at hmd
       simp only [hqk] at ck hmd
       have ly:=by0.lt
       obtain ⟨j,hj⟩:∃ j,2*i+k=j:=⟨_,rfl⟩
       have hjk:=hide (show 2*i+(k+1)=j+1 by omega)
       rw [hj] at bo hmd ⊢
       obtain ⟨O1,O2,hO⟩:∃ O1 O2,accR m j=(O1,O2):=⟨_,_,rfl⟩
       rw [hO] at bo
       obtain ⟨o0,o1⟩:=bo.c2
       obtain ⟨fo0,fo1⟩:=bo.f2
       have lo:=bo.lt
       have HB:=hide (And.intro hu (And.intro bq (And.intro bz (And.intro bo (And.intro bx by0)))))
       replace hj:=hide hj
       have HO:=hide hO
       clear hT hu bq bz bo bx by0 hqk hO
       have KD:=hide (fun W=>rmuldiv_any mu xi qk W)
       by_cases he:(mulDivE mu xi qk).2.2=0
       · rw [md_err he] at hmd
         rw [he] at KD
         obtain ⟨L,H,hLH⟩:∃ L H,mulDivE mu xi qk=(L,H,0):=⟨(mulDivE mu xi qk).1,(mulDivE mu xi qk).2.1,by rw [← he]⟩
         simp only [hLH] at hmd KD
         have HMD:=hide hmd
         clear hmd he hLH
         by_cases hj0:j=0
         · have hjb:(j==0)=true:=by simp [hj0]
           have hjb2:decide (j=0)=true:=by simp [hj0]
           replace hj0:=hide hj0
           go_wp2_with (go_at_call 227;(with_reducible refine (KD.out _).mono ?_);intro _)
           go_roundw
           case rel =>
            refine ⟨k+1,by go_num,by omega,by rw [hjk.out];simp,hide ⟨?_,?_⟩⟩
            · rw [hjk.out]
              refine ⟨(Up.via HB.out.1),(Box.via HB.out.2.1),(Box.via HB.out.2.2.1),?_,(Box.via HB.out.2.2.2.2.1)⟩
              rw [show accR m (j+1)=(L,H) by rw [hj0.out];exact accR_one (by rw [← hj0.out];exact HMD.out)]
              exact (by (repeat (first|with_reducible apply Box.ext|with_reducible apply Box.alloc|with_reducible apply Box.drew));exact ((HB.out.2.2.2.1.set 0 (.int .i64 L)).set 1 (.int .i64 H)))
            · exact (Box.via HB.out.2.2.2.2.2)
           case measure=>simp [intOf];omega
         · have hjb:(j==0)=false:=by simp [hj0]
           have hjb2:decide (j=0)=false:=by simp [hj0]
           have HN:=hide (accR_next hj0 HO.out HMD.out)
           replace hj0:=hide hj0
           by_cases hl:L<O1
           · have hlb:decide (L<O1)=true:=by simp;omega
             by_cases hh:O2<H
             · have hhb:decide (O2<H)=true:=by simp;omega
               have HE:=hide (show accR m (j+1)=(L,H) by rw [HN.out];apply Prod.ext <;> simp only <;> omega)
               replace hl:=hide hl
               replace hh:=hide hh
               go_wp2_with (go_at_call 227;(with_reducible refine (KD.out _).mono ?_);intro _)
               go_roundw
               case rel =>
                refine ⟨k+1,by go_num,by omega,by rw [hjk.out];simp,hide ⟨?_,?_⟩⟩
                · rw [hjk.out]
                  refine ⟨(Up.via HB.out.1),(Box.via HB.out.2.1),(Box.via HB.out.2.2.1),?_,(Box.via HB.out.2.2.2.2.1)⟩
                  rw [HE.out]
                  exact (by (repeat (first|with_reducible apply Box.ext|with_reducible apply Box.alloc|with_reducible apply Box.drew));exact ((HB.out.2.2.2.1.set 0 (.int .i64 L)).set 1 (.int .i64 H)))
                · exact (Box.via HB.out.2.2.2.2.2)
               case measure=>simp [intOf];omega
             · have hhb:decide (O2<H)=false:=by simp;omega
               have HE:=hide (show accR m (j+1)=(L,O2) by rw [HN.out];apply Prod.ext <;> simp only <;> omega)
               replace hl:=hide hl
               replace hh:=hide hh
               go_wp2_with (go_at_call 227;(with_reducible refine (KD.out _).mono ?_);intro _)
               go_roundw
               case rel =>
                refine ⟨k+1,by go_num,by omega,by rw [hjk.out];simp,hide ⟨?_,?_⟩⟩
                · rw [hjk.out]
                  refine ⟨(Up.via HB.out.1),(Box.via HB.out.2.1),(Box.via HB.out.2.2.1),?_,(Box.via HB.out.2.2.2.2.1)⟩
                  rw [HE.out]
                  exact (by (repeat (first|with_reducible apply Box.ext|with_reducible apply Box.alloc|with_reducible apply Box.drew));exact (HB.out.2.2.2.1.set 0 (.int .i64 L)))
                · exact (Box.via HB.out.2.2.2.2.2)
               case measure=>simp [intOf];omega
           · have hlb:decide (L<O1)=false:=by simp;omega
             by_cases hh:O2<H
             · have hhb:decide (O2<H)=true:=by simp;omega
               have HE:=hide (show accR m (j+1)=(O1,H) by rw [HN.out];apply Prod.ext <;> simp only <;> omega)
               replace hl:=hide hl
               replace hh:=hide hh
               go_wp2_with (go_at_call 227;(with_reducible refine (KD.out _).mono ?_);intro _)
               go_roundw
               case rel =>
                refine ⟨k+1,by go_num,by omega,by rw [hjk.out];simp,hide ⟨?_,?_⟩⟩
                · rw [hjk.out]
                  refine ⟨(Up.via HB.out.1),(Box.via HB.out.2.1),(Box.via HB.out.2.2.1),?_,(Box.via HB.out.2.2.2.2.1)⟩
                  rw [HE.out]
                  exact (by (repeat (first|with_reducible apply Box.ext|with_reducible apply Box.alloc|with_reducible apply Box.drew));exact (HB.out.2.2.2.1.set 1 (.int .i64 H)))
                · exact (Box.via HB.out.2.2.2.2.2)
               case measure=>simp [intOf];omega
             · have hhb:decide (O2<H)=false:=by simp;omega
               have HE:=hide (show accR m (j+1)=(O1,O2) by rw [HN.out];apply Prod.ext <;> simp only <;> omega)
               replace hl:=hide hl
               replace hh:=hide hh
               go_wp2_with (go_at_call 227;(with_reducible refine (KD.out _).mono ?_);intro _)
               go_roundw
               case rel =>
                refine ⟨k+1,by go_num,by omega,by rw [hjk.out];simp,hide ⟨?_,?_⟩⟩
                · rw [hjk.out]
                  refine ⟨(Up.via HB.out.1),(Box.via HB.out.2.1),(Box.via HB.out.2.2.1),?_,(Box.via HB.out.2.2.2.2.1)⟩
                  rw [HE.out]
                  exact (by (repeat (first|with_reducible apply Box.ext|with_reducible apply Box.alloc|with_reducible apply Box.drew));exact HB.out.2.2.2.1)
                · exact (Box.via HB.out.2.2.2.2.2)
               case measure=>simp [intOf];omega
       · have heb:((mulDivE mu xi qk).2.2 != 0)=true:=by simp [he]
         by_cases hn:xi<0
         · have hnb:decide (xi<0)=true:=by simp;omega
           have HMD:=hide (show m j=(-1152921504606846976,-1152921504606846976) by rw [hmd];unfold mdP;rw [if_neg he,if_pos hn])
           replace hn:=hide hn
           clear hmd he
           by_cases hj0:j=0
           · have hjb:(j==0)=true:=by simp [hj0]
             have hjb2:decide (j=0)=true:=by simp [hj0]
             replace hj0:=hide hj0
             go_wp2_with (go_at_call 227;(with_reducible refine (KD.out _).mono ?_);intro _)
             go_roundw
             case rel =>
              refine ⟨k+1,by go_num,by omega,by rw [hjk.out];simp,hide ⟨?_,?_⟩⟩
              · rw [hjk.out]
                refine ⟨(Up.via HB.out.1),(Box.via HB.out.2.1),(Box.via HB.out.2.2.1),?_,(Box.via HB.out.2.2.2.2.1)⟩
                rw [show accR m (j+1)=(-1152921504606846976,-1152921504606846976) by rw [hj0.out];exact accR_one (by rw [← hj0.out];exact HMD.out)]
                exact (by (repeat (first|with_reducible apply Box.ext|with_reducible apply Box.alloc|with_reducible apply Box.drew));exact ((HB.out.2.2.2.1.set 0 (.int .i64 (-1152921504606846976))).set 1 (.int .i64 (-1152921504606846976))))
              · exact (Box.via HB.out.2.2.2.2.2)
             case measure=>simp [intOf];omega
           · have hjb:(j==0)=false:=by simp [hj0]
             have hjb2:decide (j=0)=false:=by simp [hj0]
             have HN:=hide (accR_next hj0 HO.out HMD.out)
             replace hj0:=hide hj0
             by_cases hl:(-1152921504606846976)<O1
             · have hlb:decide ((-1152921504606846976)<O1)=true:=by simp;omega
               by_cases hh:O2<(-1152921504606846976)
               · have hhb:decide (O2<(-1152921504606846976))=true:=by simp;omega
                 have HE:=hide (show accR m (j+1)=((-1152921504606846976),(-1152921504606846976)) by rw [HN.out];apply Prod.ext <;> simp only <;> omega)
                 replace hl:=hide hl
                 replace hh:=hide hh
                 go_wp2_with (go_at_call 227;(with_reducible refine (KD.out _).mono ?_);intro _)
                 go_roundw
                 case rel =>
                  refine ⟨k+1,by go_num,by omega,by rw [hjk.out];simp,hide ⟨?_,?_⟩⟩
                  · rw [hjk.out]
                    refine ⟨(Up.via HB.out.1),(Box.via HB.out.2.1),(Box.via HB.out.2.2.1),?_,(Box.via HB.out.2.2.2.2.1)⟩
                    rw [HE.out]
                    exact (by (repeat (first|with_reducible apply Box.ext|with_reducible apply Box.alloc|with_reducible apply Box.drew));exact ((HB.out.2.2.2.1.set 0 (.int .i64 (-1152921504606846976))).set 1 (.int .i64 (-1152921504606846976))))
                  · exact (Box.via HB.out.2.2.2.2.2)
                 case measure=>simp [intOf];omega
               · have hhb:decide (O2<(-1152921504606846976))=false:=by simp;omega
                 have HE:=hide (show accR m (j+1)=((-1152921504606846976),O2) by rw [HN.out];apply Prod.ext <;> simp only <;> omega)
                 replace hl:=hide hl
                 replace hh:=hide hh
                 go_wp2_with (go_at_call 227;(with_reducible refine (KD.out _).mono ?_);intro _)
                 go_roundw
                 case rel =>
                  refine ⟨k+1,by go_num,by omega,by rw [hjk.out];simp,hide ⟨?_,?_⟩⟩
                  · rw [hjk.out]
                    refine ⟨(Up.via HB.out.1),(Box.via HB.out.2.1),(Box.via HB.out.2.2.1),?_,(Box.via HB.out.2.2.2.2.1)⟩
                    rw [HE.out]
                    exact (by (repeat (first|with_reducible apply Box.ext|with_reducible apply Box.alloc|with_reducible apply Box.drew));exact (HB.out.2.2.2.1.set 0 (.int .i64 (-1152921504606846976))))
                  · exact (Box.via HB.out.2.2.2.2.2)
                 case measure=>simp [intOf];omega
             · have hlb:decide ((-1152921504606846976)<O1)=false:=by simp;omega
               by_cases hh:O2<(-1152921504606846976)
               · have hhb:decide (O2<(-1152921504606846976))=true:=by simp;omega
                 have HE:=hide (show accR m (j+1)=(O1,(-1152921504606846976)) by rw [HN.out];apply Prod.ext <;> simp only <;> omega)
                 replace hl:=hide hl
                 replace hh:=hide hh
                 go_wp2_with (go_at_call 227;(with_reducible refine (KD.out _).mono ?_);intro _)
                 go_roundw
                 case rel =>
                  refine ⟨k+1,by go_num,by omega,by rw [hjk.out];simp,hide ⟨?_,?_⟩⟩
                  · rw [hjk.out]
                    refine ⟨(Up.via HB.out.1),(Box.via HB.out.2.1),(Box.via HB.out.2.2.1),?_,(Box.via HB.out.2.2.2.2.1)⟩
                    rw [HE.out]
                    exact (by (repeat (first|with_reducible apply Box.ext|with_reducible apply Box.alloc|with_reducible apply Box.drew));exact (HB.out.2.2.2.1.set 1 (.int .i64 (-1152921504606846976))))
                  · exact (Box.via HB.out.2.2.2.2.2)
                 case measure=>simp [intOf];omega
               · have hhb:decide (O2<(-1152921504606846976))=false:=by simp;omega
                 have HE:=hide (show accR m (j+1)=(O1,O2) by rw [HN.out];apply Prod.ext <;> simp only <;> omega)
                 replace hl:=hide hl
                 replace hh:=hide hh
                 go_wp2_with (go_at_call 227;(with_reducible refine (KD.out _).mono ?_);intro _)
                 go_roundw
                 case rel =>
                  refine ⟨k+1,by go_num,by omega,by rw [hjk.out];simp,hide ⟨?_,?_⟩⟩
                  · rw [hjk.out]
                    refine ⟨(Up.via HB.out.1),(Box.via HB.out.2.1),(Box.via HB.out.2.2.1),?_,(Box.via HB.out.2.2.2.2.1)⟩
                    rw [HE.out]
                    exact (by (repeat (first|with_reducible apply Box.ext|with_reducible apply Box.alloc|with_reducible apply Box.drew));exact HB.out.2.2.2.1)
                  · exact (Box.via HB.out.2.2.2.2.2)
                 case measure=>simp [intOf];omega
         · have hnb:decide (xi<0)=false:=by simp;omega
           have HMD:=hide (show m j=(1152921504606846976,1152921504606846976) by rw [hmd];unfold mdP;rw [if_neg he,if_neg hn])
           replace hn:=hide hn
           clear hmd he
           by_cases hj0:j=0
           · have hjb:(j==0)=true:=by simp [hj0]
             have hjb2:decide (j=0)=true:=by simp [hj0]
             replace hj0:=hide hj0
             go_wp2_with (go_at_call 227;(with_reducible refine (KD.out _).mono ?_);intro _)
             go_roundw
             case rel =>
              refine ⟨k+1,by go_num,by omega,by rw [hjk.out];simp,hide ⟨?_,?_⟩⟩
              · rw [hjk.out]
                refine ⟨(Up.via HB.out.1),(Box.via HB.out.2.1),(Box.via HB.out.2.2.1),?_,(Box.via HB.out.2.2.2.2.1)⟩
                rw [show accR m (j+1)=(1152921504606846976,1152921504606846976) by rw [hj0.out];exact accR_one (by rw [← hj0.out];exact HMD.out)]
                exact (by (repeat (first|with_reducible apply Box.ext|with_reducible apply Box.alloc|with_reducible apply Box.drew));exact ((HB.out.2.2.2.1.set 0 (.int .i64 1152921504606846976)).set 1 (.int .i64 1152921504606846976)))
              · exact (Box.via HB.out.2.2.2.2.2)
             case measure=>simp [intOf];omega
           · have hjb:(j==0)=false:=by simp [hj0]
             have hjb2:decide (j=0)=false:=by simp [hj0]
             have HN:=hide (accR_next hj0 HO.out HMD.out)
             replace hj0:=hide hj0
             by_cases hl:1152921504606846976<O1
             · have hlb:decide (1152921504606846976<O1)=true:=by simp;omega
               by_cases hh:O2<1152921504606846976
               · have hhb:decide (O2<1152921504606846976)=true:=by simp;omega
                 have HE:=hide (show accR m (j+1)=(1152921504606846976,1152921504606846976) by rw [HN.out];apply Prod.ext <;> simp only <;> omega)
                 replace hl:=hide hl
                 replace hh:=hide hh
                 go_wp2_with (go_at_call 227;(with_reducible refine (KD.out _).mono ?_);intro _)
                 go_roundw
                 case rel =>
                  refine ⟨k+1,by go_num,by omega,by rw [hjk.out];simp,hide ⟨?_,?_⟩⟩
                  · rw [hjk.out]
                    refine ⟨(Up.via HB.out.1),(Box.via HB.out.2.1),(Box.via HB.out.2.2.1),?_,(Box.via HB.out.2.2.2.2.1)⟩
                    rw [HE.out]
                    exact (by (repeat (first|with_reducible apply Box.ext|with_reducible apply Box.alloc|with_reducible apply Box.drew));exact ((HB.out.2.2.2.1.set 0 (.int .i64 1152921504606846976)).set 1 (.int .i64 1152921504606846976)))
                  · exact (Box.via HB.out.2.2.2.2.2)
                 case measure=>simp [intOf];omega
               · have hhb:decide (O2<1152921504606846976)=false:=by simp;omega
                 have HE:=hide (show accR m (j+1)=(1152921504606846976,O2) by rw [HN.out];apply Prod.ext <;> simp only <;> omega)
                 replace hl:=hide hl
                 replace hh:=hide hh
                 go_wp2_with (go_at_call 227;(with_reducible refine (KD.out _).mono ?_);intro _)
                 go_roundw
                 case rel =>
                  refine ⟨k+1,by go_num,by omega,by rw [hjk.out];simp,hide ⟨?_,?_⟩⟩
                  · rw [hjk.out]
                    refine ⟨(Up.via HB.out.1),(Box.via HB.out.2.1),(Box.via HB.out.2.2.1),?_,(Box.via HB.out.2.2.2.2.1)⟩
                    rw [HE.out]
                    exact (by (repeat (first|with_reducible apply Box.ext|with_reducible apply Box.alloc|with_reducible apply Box.drew));exact (HB.out.2.2.2.1.set 0 (.int .i64 1152921504606846976)))
                  · exact (Box.via HB.out.2.2.2.2.2)
                 case measure=>simp [intOf];omega
             · have hlb:decide (1152921504606846976<O1)=false:=by simp;omega
               by_cases hh:O2<1152921504606846976
               · have hhb:decide (O2<1152921504606846976)=true:=by simp;omega
                 have HE:=hide (show accR m (j+1)=(O1,1152921504606846976) by rw [HN.out];apply Prod.ext <;> simp only <;> omega)
                 replace hl:=hide hl
                 replace hh:=hide hh
                 go_wp2_with (go_at_call 227;(with_reducible refine (KD.out _).mono ?_);intro _)
                 go_roundw
                 case rel =>
                  refine ⟨k+1,by go_num,by omega,by rw [hjk.out];simp,hide ⟨?_,?_⟩⟩
                  · rw [hjk.out]
                    refine ⟨(Up.via HB.out.1),(Box.via HB.out.2.1),(Box.via HB.out.2.2.1),?_,(Box.via HB.out.2.2.2.2.1)⟩
                    rw [HE.out]
                    exact (by (repeat (first|with_reducible apply Box.ext|with_reducible apply Box.alloc|with_reducible apply Box.drew));exact (HB.out.2.2.2.1.set 1 (.int .i64 1152921504606846976)))
                  · exact (Box.via HB.out.2.2.2.2.2)
                 case measure=>simp [intOf];omega
               · have hhb:decide (O2<1152921504606846976)=false:=by simp;omega
                 have HE:=hide (show accR m (j+1)=(O1,O2) by rw [HN.out];apply Prod.ext <;> simp only <;> omega)
                 replace hl:=hide hl
                 replace hh:=hide hh
                 go_wp2_with (go_at_call 227;(with_reducible refine (KD.out _).mono ?_);intro _)
                 go_roundw
                 case rel =>
                  refine ⟨k+1,by go_num,by omega,by rw [hjk.out];simp,hide ⟨?_,?_⟩⟩
                  · rw [hjk.out]
                    refine ⟨(Up.via HB.out.1),(Box.via HB.out.2.1),(Box.via HB.out.2.2.1),?_,(Box.via HB.out.2.2.2.2.1)⟩
                    rw [HE.out]
                    exact (by (repeat (first|with_reducible apply Box.ext|with_reducible apply Box.alloc|with_reducible apply Box.drew));exact HB.out.2.2.2.1)
                  · exact (Box.via HB.out.2.2.2.2.2)
                 case measure=>simp [intOf];omega
     · have hkb:decide ((k:Int)<2)=false:=by simp;omega
       have hkn:decide (k<2)=false:=by simp;omega
       have hk2:=hide (show 2*i+k=2*(i+1) by omega)
       clear hu bq bz bo bx by0
       go_wp2_with fail
       go_roundw
       case rel=>exact ⟨i+1,by go_num,by omega,by rw [hk2.out];simp,hide (by have:=hT.out.1;rw [hk2.out] at this;exact this)⟩
       case measure=>simp [intOf];omega
  · have hib:decide ((i:Int)<2)=false:=by simp;omega
    have hin:decide (i<2)=false:=by simp;omega
    have hi2:2*i=4:=by omega
    rw [hi2] at bo
    obtain ⟨o0,o1⟩:=bo.c2
    have lo:=bo.lt
    obtain ⟨z0,z1⟩:=bz.c2
    obtain ⟨fz0,fz1⟩:=bz.f2
    have lz:=bz.lt
    have HF:=hide ((bz.set 0 (.int .i64 (accR m 4).1)).set 1 (.int .i64 (accR m 4).2))
    have HU:=hide hu
    clear hS hu bq bz bo bx hi2
    go_wp2_with fail
    obtain ⟨y0,y1⟩:=HF.out.c2
    (refine bodyPost_give (Up.via HU.out) rfl ⟨_,(by simp [results,Tryz.results210,go_sem,y0,y1];rfl),?_⟩)
    rfl
end Go.Proofs.YteafglginnonnaaGreat
