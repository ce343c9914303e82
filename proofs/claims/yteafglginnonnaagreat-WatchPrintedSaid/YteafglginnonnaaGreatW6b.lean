/- Several texts in one. -/
import Derived.Test.YteafglginnonnaaGreatRootR
import Derived.Test.YteafglginnonnaaGreatSkyR
import Derived.Test.YteafglginnonnaaGreatFRefO
import Derived.Test.YteafglginnonnaaGreatFRefS
import Derived.Test.YteafglginnonnaaGreatForceE
import Derived.Test.YteafglginnonnaaGreatPush
import Derived.Test.YteafglginnonnaaGreatSight
import Derived.Test.YteafglginnonnaaGreatModk
import Derived.Test.YteafglginnonnaaGreatTail
import Derived.Test.YteafglginnonnaaGreatWatchJ
/- Reference bolideref04: states, boxes, sets. Conditions: what lies in memory. -/
set_option linter.unusedVariables false
set_option linter.unusedSimpArgs false
namespace Go.Proofs.YteafglginnonnaaGreat
set_option maxHeartbeats 20000000
set_option maxRecDepth 100000
open Go.RowKit Go.Shelf
theorem qguess_any (x y u v:Int) (w:World):Gives Tryz.prog 194 #[.agg #[.int .i64 (x),.int .i64 (y),.int .i64 (u),.int .i64 (v)]] w (.bool (decide (stateE x y u v=0))):=by
 have H1:=hide (fun W=>snear_any x y W)
 have H3:=hide (fun W=>sbetween_any u (-1048576) 1048576 W)
 have H4:=hide (fun W=>sbetween_any v (-1048576) 1048576 W)
 have e:decide (stateE x y u v=0)=(nearV 33554432 (x,y)&&(withinB u (-1048576) 1048576&&withinB v (-1048576) 1048576)):=by
  unfold stateE nearV
  dsimp only
  cases withinB x (-33554432) 33554432 <;> cases withinB y (-33554432) 33554432 <;> cases withinB u (-1048576) 1048576 <;> cases withinB v (-1048576) 1048576 <;> rfl
 rw [e]
 clear e
 generalize nearV 33554432 (x,y)=A at *
 generalize withinB u (-1048576) 1048576=C at *
 generalize withinB v (-1048576) 1048576=D at *
 cases A <;> cases C <;> cases D
 all_goals
  (unfold Gives;go_enter Tryz.func194,Tryz.ntmps194)
  go_wp2_with (first|(go_at_call 117;(with_reducible refine (H1.out _).mono ?_);intro _)|(go_at_call 126;(with_reducible refine (H3.out _).mono ?_);intro _)|(go_at_call 126;(with_reducible refine (H4.out _).mono ?_);intro _))
  go_ret
  exact ⟨rfl,Up.go⟩
theorem qstate_any (x y u v:Int) (w:World):Gives Tryz.prog 165 #[.agg #[.int .i64 (x),.int .i64 (y),.int .i64 (u),.int .i64 (v)]] w (.int .i64 (stateE x y u v)):=by
 have HG:=hide (fun W=>qguess_any x y u v W)
 rcases stateE_two x y u v with h | h
 · rw [h] at HG ⊢
   rw [show decide ((0:Int)=0)=true from rfl] at HG
   (unfold Gives;go_enter Tryz.func165,Tryz.ntmps165)
   go_wp2_with (go_at_call 194;(with_reducible refine (HG.out _).mono ?_);intro _)
   go_ret
   exact ⟨rfl,Up.go⟩
 · rw [h] at HG ⊢
   rw [show decide ((2:Int)=0)=false from rfl] at HG
   (unfold Gives;go_enter Tryz.func165,Tryz.ntmps165)
   go_wp2_with (go_at_call 194;(with_reducible refine (HG.out _).mono ?_);intro _)
   go_ret
   exact ⟨rfl,Up.go⟩
theorem qlow_any (x0 x1 y0 y1 u0 u1 v0 v1:Int) (w:World):Gives Tryz.prog 166 #[.agg #[.int .i64 (x0),.int .i64 (x1),.int .i64 (y0),.int .i64 (y1),.int .i64 (u0),.int .i64 (u1),.int .i64 (v0),.int .i64 (v1)]] w (.agg #[.int .i64 (x0),.int .i64 (y0),.int .i64 (u0),.int .i64 (v0)]):=by
 (unfold Gives;go_enter Tryz.func166,Tryz.ntmps166)
 go_wp2
 all_goals (refine bodyPost_give Up.go rfl ⟨_,(by simp [results,Tryz.results166,go_sem];rfl),?_⟩)
 all_goals rfl
theorem qhigh_any (x0 x1 y0 y1 u0 u1 v0 v1:Int) (w:World):Gives Tryz.prog 167 #[.agg #[.int .i64 (x0),.int .i64 (x1),.int .i64 (y0),.int .i64 (y1),.int .i64 (u0),.int .i64 (u1),.int .i64 (v0),.int .i64 (v1)]] w (.agg #[.int .i64 (x1),.int .i64 (y1),.int .i64 (u1),.int .i64 (v1)]):=by
 (unfold Gives;go_enter Tryz.func167,Tryz.ntmps167)
 go_wp2
 all_goals (refine bodyPost_give Up.go rfl ⟨_,(by simp [results,Tryz.results167,go_sem];rfl),?_⟩)
 all_goals rfl
theorem qfull_any (b:BoxD) (w:World):Gives Tryz.prog 164 #[.agg (boxA b)] w (.bool (fullB b)):=by
 obtain ⟨x0,x1,y0,y1,u0,u1,v0,v1⟩:=b
 unfold fullB boxA
 dsimp only
 by_cases h1:x0≤x1
 rotate_left
 · have d1:decide (x0≤x1)=false:=decide_eq_false h1
   rw [d1]
   (unfold Gives;go_enter Tryz.func164,Tryz.ntmps164)
   go_wp2
   go_ret
   exact ⟨rfl,Up.go⟩
 have d1:decide (x0≤x1)=true:=decide_eq_true h1
 by_cases h2:y0≤y1
 rotate_left
 · have d2:decide (y0≤y1)=false:=decide_eq_false h2
   rw [d1,d2]
   (unfold Gives;go_enter Tryz.func164,Tryz.ntmps164)
   go_wp2
   go_ret
   exact ⟨rfl,Up.go⟩
 have d2:decide (y0≤y1)=true:=decide_eq_true h2
 by_cases h3:u0≤u1
 rotate_left
 · have d3:decide (u0≤u1)=false:=decide_eq_false h3
   rw [d1,d2,d3]
   (unfold Gives;go_enter Tryz.func164,Tryz.ntmps164)
   go_wp2
   go_ret
   exact ⟨rfl,Up.go⟩
 have d3:decide (u0≤u1)=true:=decide_eq_true h3
 by_cases h4:v0≤v1
 · have d4:decide (v0≤v1)=true:=decide_eq_true h4
   rw [d1,d2,d3,d4]
   (unfold Gives;go_enter Tryz.func164,Tryz.ntmps164)
   go_wp2
   go_ret
   exact ⟨rfl,Up.go⟩
 · have d4:decide (v0≤v1)=false:=decide_eq_false h4
   rw [d1,d2,d3,d4]
   (unfold Gives;go_enter Tryz.func164,Tryz.ntmps164)
   go_wp2
   go_ret
   exact ⟨rfl,Up.go⟩
theorem qbox_any (b:BoxD) (w:World):Gives Tryz.prog 122 #[.agg (boxA b)] w (.int .i64 (boxE b)):=by
 have HF:=hide (fun W=>qfull_any b W)
 obtain ⟨x0,x1,y0,y1,u0,u1,v0,v1⟩:=b
 have HL:=hide (fun W=>qlow_any x0 x1 y0 y1 u0 u1 v0 v1 W)
 have HH:=hide (fun W=>qhigh_any x0 x1 y0 y1 u0 u1 v0 v1 W)
 have HS1:=hide (fun W=>qstate_any x0 y0 u0 v0 W)
 have HS2:=hide (fun W=>qstate_any x1 y1 u1 v1 W)
 have s1:=stateE_two x0 y0 u0 v0
 have s2:=stateE_two x1 y1 u1 v1
 unfold boxE boxA at *
 dsimp only at *
 generalize fullB ⟨x0,x1,y0,y1,u0,u1,v0,v1⟩=F at *
 generalize stateE x0 y0 u0 v0=L at *
 generalize stateE x1 y1 u1 v1=M at *
 cases F
 · rw [if_neg (by simp)]
   clear s1 s2
   (unfold Gives;go_enter Tryz.func122,Tryz.ntmps122)
   go_wp2_with (go_at_call 164;(with_reducible refine (HF.out _).mono ?_);intro _)
   go_ret
   exact ⟨rfl,Up.go⟩
 rw [if_pos rfl]
 rcases s1 with rfl | rfl
 rotate_left
 · rw [if_neg (by decide)]
   clear s2
   (unfold Gives;go_enter Tryz.func122,Tryz.ntmps122)
   go_wp2_with (first|(go_at_call 164;(with_reducible refine (HF.out _).mono ?_);intro _)|(go_at_call 166;(with_reducible refine (HL.out _).mono ?_);intro _)|(go_at_call 167;(with_reducible refine (HH.out _).mono ?_);intro _)|(go_at_call 165;(with_reducible refine (HS1.out _).mono ?_);intro _)|(go_at_call 165;(with_reducible refine (HS2.out _).mono ?_);intro _))
   go_ret
   exact ⟨rfl,Up.go⟩
 rw [if_pos rfl]
 rcases s2 with rfl | rfl
 · rw [if_pos rfl]
   (unfold Gives;go_enter Tryz.func122,Tryz.ntmps122)
   go_wp2_with (first|(go_at_call 164;(with_reducible refine (HF.out _).mono ?_);intro _)|(go_at_call 166;(with_reducible refine (HL.out _).mono ?_);intro _)|(go_at_call 167;(with_reducible refine (HH.out _).mono ?_);intro _)|(go_at_call 165;(with_reducible refine (HS1.out _).mono ?_);intro _)|(go_at_call 165;(with_reducible refine (HS2.out _).mono ?_);intro _))
   go_ret
   exact ⟨rfl,Up.go⟩
 · rw [if_neg (by decide)]
   (unfold Gives;go_enter Tryz.func122,Tryz.ntmps122)
   go_wp2_with (first|(go_at_call 164;(with_reducible refine (HF.out _).mono ?_);intro _)|(go_at_call 166;(with_reducible refine (HL.out _).mono ?_);intro _)|(go_at_call 167;(with_reducible refine (HH.out _).mono ?_);intro _)|(go_at_call 165;(with_reducible refine (HS1.out _).mono ?_);intro _)|(go_at_call 165;(with_reducible refine (HS2.out _).mono ?_);intro _))
   go_ret
   exact ⟨rfl,Up.go⟩
theorem and_one_i64 (x:Int):bits BinOp.and IntKind.i64 x 1=x % 2:=by
 unfold bits
 dsimp only
 have h:(BitVec.ofInt IntKind.i64.bits x &&& BitVec.ofInt IntKind.i64.bits 1).toNat=(x % 2).toNat:=by
  rw [BitVec.toNat_and]
  have e1:(BitVec.ofInt IntKind.i64.bits 1).toNat=1:=by decide
  rw [e1,Nat.and_one_is_mod,BitVec.toNat_ofInt]
  show (x % (18446744073709551616:Nat)).toNat % 2=(x % 2).toNat
  omega
 rw [h,IntKind.wrap_i64]
 omega
def bestI (l:List Int):Nat→Nat
 | 0=>0
 | k+1=>if l.getD (bestI l k) 0<l.getD (k+1) 0 then k+1 else bestI l k
theorem bestI_le (l:List Int):∀ k,bestI l k≤k
 | 0=>Nat.le_refl _
 | k+1=>by
  have:=bestI_le l k
  unfold bestI
  split <;> omega
theorem bestI_max (l:List Int):∀ k i,i≤k→l.getD i 0≤l.getD (bestI l k) 0
 | 0,i,hi=>by
  obtain rfl:i=0:=by omega
  exact Int.le_refl _
 | k+1,i,hi=>by
  unfold bestI
  by_cases h:l.getD (bestI l k) 0<l.getD (k+1) 0
  · rw [if_pos h]
    rcases Nat.lt_or_ge i (k+1) with h1 | h1
    · exact Int.le_of_lt (Int.lt_of_le_of_lt (bestI_max l k i (by omega)) h)
    · rw [show i=k+1 by omega];exact Int.le_refl _
  · rw [if_neg h]
    rcases Nat.lt_or_ge i (k+1) with h1 | h1
    · exact bestI_max l k i (by omega)
    · rw [show i=k+1 by omega];omega
def widL (b:BoxD):List Int:=[b.x1 - b.x0,b.y1 - b.y0,b.u1 - b.u0,b.v1 - b.v0]
def widI (b:BoxD):Nat:=bestI (widL b) 3
def widN (b:BoxD):Int:=(widL b).getD (widI b) 0
def loL (b:BoxD):List Int:=[b.x0,b.y0,b.u0,b.v0]
def hiL (b:BoxD):List Int:=[b.x1,b.y1,b.u1,b.v1]
theorem widL_at (b:BoxD) (i:Nat) (hi:i<4):(widL b).getD i 0=(hiL b).getD i 0 - (loL b).getD i 0:=by
 match i,hi with
 | 0,_=>rfl
 | 1,_=>rfl
 | 2,_=>rfl
 | 3,_=>rfl
theorem box_lo (b:BoxD) (i:Nat) (hi:i<4):(boxA b)[i*2]?=some (.int .i64 ((loL b).getD i 0)):=by
 match i,hi with
 | 0,_=>rfl
 | 1,_=>rfl
 | 2,_=>rfl
 | 3,_=>rfl
theorem box_hi (b:BoxD) (i:Nat) (hi:i<4):(boxA b)[i*2+1]?=some (.int .i64 ((hiL b).getD i 0)):=by
 match i,hi with
 | 0,_=>rfl
 | 1,_=>rfl
 | 2,_=>rfl
 | 3,_=>rfl
structure BNum (b:BoxD):Prop where
 h:∀ i,i<4→(-1000000000000≤(loL b).getD i 0∧(loL b).getD i 0≤1000000000000) ∧ -1000000000000≤(hiL b).getD i 0∧(hiL b).getD i 0≤1000000000000
theorem BOk.num {b:BoxD} (h:BOk b):BNum b:=⟨fun i hi=>by
 have h1:=h.x
 have h2:=h.y
 have h3:=h.u
 have h4:=h.v
 unfold loL hiL
 match i,hi with
 | 0,_=>simp;omega
 | 1,_=>simp;omega
 | 2,_=>simp;omega
 | 3,_=>simp;omega⟩
theorem qwidest_any {b:BoxD} (hb:BNum b) (w:World):Gives Tryz.prog 123 #[.agg (boxA b)] w (.tuple #[.int .i64 (widI b),.int .i64 (widN b)]):=by
 have HB:=hide hb.h
 have HW:=hide (widL_at b)
 have hwn:widN b=(widL b).getD (widI b) 0:=rfl
 have hwi:widI b=bestI (widL b) 3:=rfl
 rw [hwn,hwi]
 have HLo:=hide (box_lo b)
 have HHi:=hide (box_hi b)
 have hbx:boxA b=#[.int .i64 (b.x0),.int .i64 (b.x1),.int .i64 (b.y0),.int .i64 (b.y1),.int .i64 (b.u0),.int .i64 (b.u1),.int .i64 (b.v0),.int .i64 (b.v1)]:=rfl
 have hbl:=fun k=>bestI_le (widL b) k
 have hst:∀ k,bestI (widL b) (k+1)=if (widL b).getD (bestI (widL b) k) 0<(widL b).getD (k+1) 0 then k+1 else bestI (widL b) k:=fun k=>rfl
 have hb0:bestI (widL b) 0=0:=rfl
 generalize bestI (widL b)=F at *
 obtain ⟨LL,hLL⟩:∃ f:Nat→Int,f=fun i=>(loL b).getD i 0:=⟨_,rfl⟩
 obtain ⟨HH,hHH⟩:∃ f:Nat→Int,f=fun i=>(hiL b).getD i 0:=⟨_,rfl⟩
 obtain ⟨WW,hWW⟩:∃ f:Nat→Int,f=fun i=>(widL b).getD i 0:=⟨_,rfl⟩
 have f1:∀ i,(loL b).getD i 0=LL i:=fun i=>by rw [hLL]
 have f2:∀ i,(hiL b).getD i 0=HH i:=fun i=>by rw [hHH]
 have f3:∀ i,(widL b).getD i 0=WW i:=fun i=>by rw [hWW]
 simp only [f1,f2,f3] at HB HW HLo HHi hst ⊢
 have HF:=hide (And.intro hbl (And.intro hst hb0))
 clear hb hwn hwi f1 f2 f3 hLL hHH hWW hbl hst hb0
 generalize boxA b=BA at *
 obtain ⟨X0,X1,X2,X3,X4,X5,X6,X7,rfl⟩:∃ X0 X1 X2 X3 X4 X5 X6 X7:Int,BA=#[.int .i64 (X0),.int .i64 (X1),.int .i64 (X2),.int .i64 (X3),.int .i64 (X4),.int .i64 (X5),.int .i64 (X6),.int .i64 (X7)]:=⟨_,_,_,_,_,_,_,_,hbx⟩
 clear hbx
 (unfold Gives;go_enter Tryz.func123,Tryz.ntmps123)
 go_wp2_with fail
 obtain ⟨q,hq⟩:∃ q,q=w.heap.size+1:=⟨_,rfl⟩
 rw [← hq]
 refine forgetW (fun U=>Up w U∧Box U q #[.int .i64 (X0),.int .i64 (X1),.int .i64 (X2),.int .i64 (X3),.int .i64 (X4),.int .i64 (X5),.int .i64 (X6),.int .i64 (X7)] 31) ⟨Up.go,by rw [hq];exact Box.go⟩ ?_
 clear hq
 intro V0 h0
 have H0:=hide h0
 clear h0
 go_loopw [5,6] (fun s5 s6 wr=>∃ i:Nat,i≤3∧s6=.int .i64 ((i+1:Nat):Int)∧s5=.int .i64 (F i)∧Hid (Up w wr∧Box wr q #[.int .i64 (X0),.int .i64 (X1),.int .i64 (X2),.int .i64 (X3),.int .i64 (X4),.int .i64 (X5),.int .i64 (X6),.int .i64 (X7)] 31)) (fun _ s6 _=>4 - (intOf s6).toNat)
 case atStart=>exact ⟨0,by omega,rfl,by rw [HF.out.2.2];rfl,H0⟩
 case round =>
  obtain ⟨i,hi,rfl,rfl,HI⟩:=hrel
  clear H0
  have hfi:=HF.out.1 i
  have hq:=HI.out.2.lt
  have cj0:=HI.out.2.cell _ (HLo.out (F i) (by omega))
  have cj1:=HI.out.2.cell _ (HHi.out (F i) (by omega))
  have bj:=HB.out (F i) (by omega)
  have wj:=HW.out (F i) (by omega)
  by_cases hlt:i+1<4
  · have hib:decide (((i+1:Nat):Int)<4)=true:=by simp;omega
    have hin:decide (i+1<4)=true:=by simp;omega
    have hfb:decide (F i<4)=true:=by simp;omega
    have ci0:=HI.out.2.cell _ (HLo.out (i+1) hlt)
    have ci1:=HI.out.2.cell _ (HHi.out (i+1) hlt)
    have bi:=HB.out (i+1) hlt
    have wi:=HW.out (i+1) hlt
    have hs:=HF.out.2.1 i
    rw [wi,wj] at hs
    generalize LL (i+1)=li at *
    generalize HH (i+1)=hi' at *
    generalize LL (F i)=lj at *
    generalize HH (F i)=hj at *
    by_cases hg:hj - lj<hi' - li
    · have hgb:decide (hj - lj<hi' - li)=true:=decide_eq_true hg
      rw [if_pos hg] at hs
      have HS:=hide hs
      clear hs wi wj
      go_wp2_with fail
      ((first | with_reducible refine wp_region_ext2 (by kernel_rfl) (by kernel_rfl) ?_ | refine wp_region_ext (by kernel_rfl) (by kernel_rfl) ?_);(repeat (go_big_quiet_step (fail)));refine wpQuiet_nil ?_;intro _ hw';obtain ⟨_,hw''⟩:=hw';subst hw'')
      go_wp2_with fail
      go_roundw
      case rel=>exact ⟨i+1,by omega,by go_num,by rw [HS.out],hide ⟨HI.out.1.trans Up.go,HI.out.2.up Up.go⟩⟩
      case measure=>simp [intOf];omega
    · have hgb:decide (hj - lj<hi' - li)=false:=decide_eq_false hg
      rw [if_neg hg] at hs
      have HS:=hide hs
      clear hs wi wj
      go_wp2_with fail
      ((first | with_reducible refine wp_region_ext2 (by kernel_rfl) (by kernel_rfl) ?_ | refine wp_region_ext (by kernel_rfl) (by kernel_rfl) ?_);(repeat (go_big_quiet_step (fail)));refine wpQuiet_nil ?_;intro _ hw';obtain ⟨_,hw''⟩:=hw';subst hw'')
      go_wp2_with fail
      go_roundw
      case rel=>exact ⟨i+1,by omega,by go_num,by rw [HS.out],hide ⟨HI.out.1.trans Up.go,HI.out.2.up Up.go⟩⟩
      case measure=>simp [intOf];omega
  · have hib:decide (((i+1:Nat):Int)<4)=false:=by simp;omega
    have hin:decide (i+1<4)=false:=by simp;omega
    obtain rfl:i=3:=by omega
    have hfb:decide (F 3<4)=true:=by simp;omega
    have HWJ:=hide wj
    generalize LL (F 3)=lj at *
    generalize HH (F 3)=hj at *
    clear wj
    go_wp2_with fail
    ((first | with_reducible refine wp_region_ext2 (by kernel_rfl) (by kernel_rfl) ?_ | refine wp_region_ext (by kernel_rfl) (by kernel_rfl) ?_);(repeat (go_big_quiet_step (fail)));refine wpQuiet_nil ?_;intro _ hw';obtain ⟨_,hw''⟩:=hw';subst hw'')
    go_wp2_with fail
    refine bodyPost_give (HI.out.1.trans Up.go) rfl ⟨_,(by simp [results,Tryz.results123,go_sem];rfl),?_⟩
    rw [HWJ.out]
def cutB (b:BoxD) (i:Nat):BoxD×BoxD:=match i with
 | 0=>({ b with x1:=(b.x0+b.x1) / 2 },{ b with x0:=(b.x0+b.x1) / 2+1 })
 | 1=>({ b with y1:=(b.y0+b.y1) / 2 },{ b with y0:=(b.y0+b.y1) / 2+1 })
 | 2=>({ b with u1:=(b.u0+b.u1) / 2 },{ b with u0:=(b.u0+b.u1) / 2+1 })
 | _=>({ b with v1:=(b.v0+b.v1) / 2 },{ b with v0:=(b.v0+b.v1) / 2+1 })
def zeroBx:BoxD:=⟨0,0,0,0,0,0,0,0⟩
def splitV (b:BoxD):(BoxD×BoxD)×Bool:=if boxE b=0∧widN b≠0 then (cutB b (widI b),true) else ((zeroBx,zeroBx),false)
theorem widN_ge {b:BoxD} (h:BOk b):0≤widN b:=by
 have:=bestI_max (widL b) 3 0 (by omega)
 have h1:=h.x
 unfold widN widI
 have h2:(widL b).getD 0 0=b.x1 - b.x0:=rfl
 omega
theorem widI_lt (b:BoxD):widI b<4:=by
 have:=bestI_le (widL b) 3
 unfold widI
 omega
theorem cutB_ok {b:BoxD} (h:BOk b) {i:Nat} (hw:0<(widL b).getD i 0):BOk (cutB b i).1∧BOk (cutB b i).2:=by
 have h1:=h.x
 have h2:=h.y
 have h3:=h.u
 have h4:=h.v
 match i with
 | 0 =>
  have hw:0<b.x1 - b.x0:=hw
  rw [show cutB b 0=({ b with x1:=(b.x0+b.x1) / 2 },{ b with x0:=(b.x0+b.x1) / 2+1 }) from rfl]
  dsimp only
  refine ⟨⟨⟨?_,?_,?_⟩,h2,h3,h4⟩,⟨⟨?_,?_,?_⟩,h2,h3,h4⟩⟩ <;> (dsimp only;omega)
 | 1 =>
  have hw:0<b.y1 - b.y0:=hw
  rw [show cutB b 1=({ b with y1:=(b.y0+b.y1) / 2 },{ b with y0:=(b.y0+b.y1) / 2+1 }) from rfl]
  dsimp only
  refine ⟨⟨h1,⟨?_,?_,?_⟩,h3,h4⟩,⟨h1,⟨?_,?_,?_⟩,h3,h4⟩⟩ <;> (dsimp only;omega)
 | 2 =>
  have hw:0<b.u1 - b.u0:=hw
  rw [show cutB b 2=({ b with u1:=(b.u0+b.u1) / 2 },{ b with u0:=(b.u0+b.u1) / 2+1 }) from rfl]
  dsimp only
  refine ⟨⟨h1,h2,⟨?_,?_,?_⟩,h4⟩,⟨h1,h2,⟨?_,?_,?_⟩,h4⟩⟩ <;> (dsimp only;omega)
 | 3 =>
  have hw:0<b.v1 - b.v0:=hw
  rw [show cutB b 3=({ b with v1:=(b.v0+b.v1) / 2 },{ b with v0:=(b.v0+b.v1) / 2+1 }) from rfl]
  dsimp only
  refine ⟨⟨h1,h2,h3,⟨?_,?_,?_⟩⟩,⟨h1,h2,h3,⟨?_,?_,?_⟩⟩⟩ <;> (dsimp only;omega)
 | n+4 =>
  have hw:(0:Int)<0:=hw
  omega
theorem splitV_ok {b:BoxD} (h:(splitV b).2=true):BOk b∧BOk (splitV b).1.1∧BOk (splitV b).1.2:=by
 unfold splitV at h ⊢
 by_cases hc:boxE b=0∧widN b≠0
 · rw [if_pos hc]
   have hb:=(boxE_ok b).1 hc.1
   have:=widN_ge hb
   have h2:=hc.2
   exact ⟨hb,cutB_ok hb (by unfold widN at this h2;omega)⟩
 · rw [if_neg hc] at h;cases h
theorem qhalf_any {a b:Int} (ha:-1000000000000≤a∧a≤1000000000000) (hb:-1000000000000≤b∧b≤1000000000000) (w:World):Gives Tryz.prog 195 #[.int .i64 a,.int .i64 b] w (.int .i64 ((a+b) / 2)):=by
 have e1:=and_one_i64 (a+b)
 have e2:(a+b - (a+b) % 2).tdiv 2=(a+b) / 2:=by
  rw [show a+b - (a+b) % 2=2*((a+b) / 2) by omega,Int.mul_tdiv_cancel_left _ (by omega)]
 have m0:0≤(a+b) % 2∧(a+b) % 2≤1:=by omega
 have h0:-1000000000000≤(a+b) / 2∧(a+b) / 2≤1000000000000:=by omega
 generalize (a+b) % 2=m at *
 generalize (a+b) / 2=h at *
 (unfold Gives;go_enter Tryz.func195,Tryz.ntmps195)
 go_wp2
 go_ret
 exact ⟨rfl,Up.go⟩
theorem qcut_any {a b:Int} (ha:-1000000000000≤a∧a≤1000000000000) (hb:-1000000000000≤b∧b≤1000000000000) (w:World):Gives Tryz.prog 168 #[.agg #[.int .i64 (a),.int .i64 (b)]] w (.tuple #[.agg #[.int .i64 (a),.int .i64 (((a+b) / 2))],.agg #[.int .i64 (((a+b) / 2+1)),.int .i64 (b)]]):=by
 have KH:=hide (fun W=>qhalf_any ha hb W)
 have h0:-1000000000000≤(a+b) / 2∧(a+b) / 2≤1000000000000:=by omega
 generalize (a+b) / 2=h at *
 (unfold Gives;go_enter Tryz.func168,Tryz.ntmps168)
 go_wp2_with (go_at_call 195;refine (KH.out _).mono ?_;intro _)
 refine forgetW (fun U=>Up w U∧Box U w.heap.size #[.int .i64 (a),.int .i64 (b)] 31∧Box U (w.heap.size+1) #[.int .i64 (0),.int .i64 (0)] 31∧Box U (w.heap.size+1+1) #[.int .i64 (0),.int .i64 (0)] 31) ⟨Up.go,Box.go,Box.go,Box.go⟩ ?_
 intro V0 h1
 have H0:=hide h1
 clear h1
 obtain ⟨a0,a1⟩:=H0.out.2.1.c2
 have la:=H0.out.2.1.lt
 have b1:=H0.out.2.2.1
 have b2:=H0.out.2.2.2
 have HE:=H0
 obtain ⟨x0,x1⟩:=(b1).c2
 have lx:=(b1).lt
 obtain ⟨fzx0,fzx1⟩:=(b1).f2
 obtain ⟨y0,y1⟩:=(b2).c2
 have ly:=(b2).lt
 obtain ⟨fzy0,fzy1⟩:=(b2).f2
 clear b1 b2
 have hS0:=hide (show Box V0.drew w.heap.size #[.int .i64 (a),.int .i64 (b)] 31 from H0.out.2.1.drew)
 refine wp_region_L (fun W'=>Box W' w.heap.size #[.int .i64 (a),.int .i64 (b)] 31) 10 (by kernel_rfl) ?_
 refine anyL_take 0 (v:=(.pointer (some ⟨w.heap.size,0,none⟩))) rfl (by kernel_rfl) (fun _ _ _ h=>h) (.inl ⟨rfl,fun W' hW'=>by simp [go_sem]⟩) hS0.out ?_
 simp only [Act.put,List.setIfInBounds_toArray,List.set_cons_zero,List.set_cons_succ]
 refine anyL_take 1 (v:=(.int .i64 a)) rfl (by kernel_rfl) (fun _ _ _ h=>h) (.inl ⟨rfl,fun W' hW'=>by have e:=Box.cell hW' 0 rfl;simp [go_sem,e]⟩) hS0.out ?_
 simp only [Act.put,List.setIfInBounds_toArray,List.set_cons_zero,List.set_cons_succ]
 refine anyL_take 2 (v:=(.int .i64 h)) rfl (by kernel_rfl) (fun _ _ _ h=>h) (.inl ⟨rfl,fun W' hW'=>by simp [go_sem]⟩) hS0.out ?_
 simp only [Act.put,List.setIfInBounds_toArray,List.set_cons_zero,List.set_cons_succ]
 refine anyL_take 3 (v:=(.agg #[.int .i64 (a),.int .i64 (h)])) rfl (by kernel_rfl) (fun _ _ _ h=>h) (.inl ⟨rfl,fun W' hW'=>by simp [go_sem]⟩) hS0.out ?_
 simp only [Act.put,List.setIfInBounds_toArray,List.set_cons_zero,List.set_cons_succ]
 refine anyL_take 4 (v:=(.int .i64 h)) rfl (by kernel_rfl) (fun _ _ _ h=>h) (.inl ⟨rfl,fun W' hW'=>by simp [go_sem]⟩) hS0.out ?_
 simp only [Act.put,List.setIfInBounds_toArray,List.set_cons_zero,List.set_cons_succ]
 refine anyL_take 5 (v:=(.int .i64 (h+1))) rfl (by kernel_rfl) (fun _ _ _ h=>h) (.inl ⟨rfl,fun W' hW'=>by simp [go_sem];rw [IntKind.wrap_i64];omega⟩) hS0.out ?_
 simp only [Act.put,List.setIfInBounds_toArray,List.set_cons_zero,List.set_cons_succ]
 refine anyL_take 6 (v:=(.pointer (some ⟨w.heap.size,1,none⟩))) rfl (by kernel_rfl) (fun _ _ _ h=>h) (.inl ⟨rfl,fun W' hW'=>by simp [go_sem]⟩) hS0.out ?_
 simp only [Act.put,List.setIfInBounds_toArray,List.set_cons_zero,List.set_cons_succ]
 refine anyL_take 7 (v:=(.int .i64 b)) rfl (by kernel_rfl) (fun _ _ _ h=>h) (.inl ⟨rfl,fun W' hW'=>by have e:=Box.cell hW' 1 rfl;simp [go_sem,e]⟩) hS0.out ?_
 simp only [Act.put,List.setIfInBounds_toArray,List.set_cons_zero,List.set_cons_succ]
 refine anyL_take 8 (v:=(.agg #[.int .i64 ((h+1)),.int .i64 (b)])) rfl (by kernel_rfl) (fun _ _ _ h=>h) (.inl ⟨rfl,fun W' hW'=>by simp [go_sem]⟩) hS0.out ?_
 simp only [Act.put,List.setIfInBounds_toArray,List.set_cons_zero,List.set_cons_succ]
 refine anyL_one (i:=9) (by kernel_rfl) rfl (fun K HK=>?_)
 go_wp2_with fail
 refine HK.out _ _ (fun _=>(hS0.out.other (by omega) 0 _).other (by omega) 1 _) ?_
 clear HK
 refine anyL_one (i:=10) (by kernel_rfl) rfl (fun K HK=>?_)
 go_wp2_with fail
 refine HK.out _ _ (fun h=>(h rfl).elim) ?_
 clear HK
 refine anyL_done (by kernel_rfl) ?_
 go_wp2_with fail
 refine forgetW (fun U=>Up w U∧Box U (w.heap.size+1) #[.int .i64 (a),.int .i64 (h)] 31∧Box U (w.heap.size+1+1) #[.int .i64 ((h+1)),.int .i64 (b)] 31) ?_ ?_
 · have N1:w.heap.size+1≠w.heap.size+1+1:=by omega
   have N2:w.heap.size+1+1≠w.heap.size+1:=by omega
   exact ⟨((((HE.out.1.drew.setCell (q:=⟨w.heap.size+1,0,none⟩) (by show w.heap.size≤w.heap.size+1;omega) _).setCell (q:=⟨w.heap.size+1,1,none⟩) (by show w.heap.size≤w.heap.size+1;omega) _).setCell (q:=⟨w.heap.size+1+1,0,none⟩) (by show w.heap.size≤w.heap.size+1+1;omega) _).setCell (q:=⟨w.heap.size+1+1,1,none⟩) (by show w.heap.size≤w.heap.size+1+1;omega) _),((((HE.out.2.2.1.drew.set 0 (.int .i64 a)).set 1 (.int .i64 h)).other N1 0 _).other N1 1 _),((((HE.out.2.2.2.drew.other N2 0 _).other N2 1 _).set 0 (.int .i64 (h+1))).set 1 (.int .i64 b))⟩
 rintro U ⟨hu,b1,b2⟩
 obtain ⟨z0,z1⟩:=b1.c2
 obtain ⟨z2,z3⟩:=b2.c2
 refine bodyPost_give hu rfl ⟨_,(by simp [results,Tryz.results168,go_sem,z0,z1,z2,z3];rfl),?_⟩
 rfl
theorem Up.set8 {w W:World} (h:Up w W) {b:Nat} (hb:w.heap.size≤b) (v0 v1 v2 v3 v4 v5 v6 v7:Value):Up w ((((((((W.setCell ⟨b,0,none⟩ v0).setCell ⟨b,1,none⟩ v1).setCell ⟨b,2,none⟩ v2).setCell ⟨b,3,none⟩ v3).setCell ⟨b,4,none⟩ v4).setCell ⟨b,5,none⟩ v5).setCell ⟨b,6,none⟩ v6).setCell ⟨b,7,none⟩ v7):=((((((((h.setCell (q:=⟨b,0,none⟩) hb v0).setCell (q:=⟨b,1,none⟩) hb v1).setCell (q:=⟨b,2,none⟩) hb v2).setCell (q:=⟨b,3,none⟩) hb v3).setCell (q:=⟨b,4,none⟩) hb v4).setCell (q:=⟨b,5,none⟩) hb v5).setCell (q:=⟨b,6,none⟩) hb v6).setCell (q:=⟨b,7,none⟩) hb v7)
theorem Box.other8 {W:World} {x:Nat} {c:Array Value} {t:TypeId} (h:Box W x c t) {b:Nat} (hne:x≠b) (v0 v1 v2 v3 v4 v5 v6 v7:Value):Box ((((((((W.setCell ⟨b,0,none⟩ v0).setCell ⟨b,1,none⟩ v1).setCell ⟨b,2,none⟩ v2).setCell ⟨b,3,none⟩ v3).setCell ⟨b,4,none⟩ v4).setCell ⟨b,5,none⟩ v5).setCell ⟨b,6,none⟩ v6).setCell ⟨b,7,none⟩ v7) x c t:=((((((((h.other hne 0 v0).other hne 1 v1).other hne 2 v2).other hne 3 v3).other hne 4 v4).other hne 5 v5).other hne 6 v6).other hne 7 v7)
theorem Box.put8 {W:World} {b:Nat} {a0 a1 a2 a3 a4 a5 a6 a7:Value} {t:TypeId} (h:Box W b #[a0,a1,a2,a3,a4,a5,a6,a7] t) (v0 v1 v2 v3 v4 v5 v6 v7:Value):Box ((((((((W.setCell ⟨b,0,none⟩ v0).setCell ⟨b,1,none⟩ v1).setCell ⟨b,2,none⟩ v2).setCell ⟨b,3,none⟩ v3).setCell ⟨b,4,none⟩ v4).setCell ⟨b,5,none⟩ v5).setCell ⟨b,6,none⟩ v6).setCell ⟨b,7,none⟩ v7) b #[v0,v1,v2,v3,v4,v5,v6,v7] t:=by
 simpa using ((((((((h.set 0 v0).set 1 v1).set 2 v2).set 3 v3).set 4 v4).set 5 v5).set 6 v6).set 7 v7)
theorem qsplit_any (b:BoxD) (hn:BNum b) (w:World):Gives Tryz.prog 124 #[.agg (boxA b)] w (.tuple #[.agg (boxA (splitV b).1.1),.agg (boxA (splitV b).1.2),.bool (splitV b).2]):=by
 have HWI:=hide (fun W=>qwidest_any hn W)
 have HC:=hide (fun W=>qbox_any b W)
 have HI:=hide (widI_lt b)
 unfold splitV
 have hcut:=fun (i:Nat) (hi:i<4)=>hn.h i hi
 generalize widI b=I at *
 generalize widN b=N at *
 generalize boxE b=E at *
 by_cases hc:E=0∧N≠0
 rotate_left
 · rw [if_neg hc]
   have hcb:(E != 0 || N==0)=true:=by
    by_cases h:E=0
    · subst h
      by_cases h2:N=0
      · subst h2;rfl
      · exact absurd ⟨rfl,h2⟩ hc
    · simp [h]
   obtain ⟨x0,x1,y0,y1,u0,u1,v0,v1⟩:=b
   unfold boxA zeroBx at *
   dsimp only at *
   rcases hE:(E != 0) with _ | _
   · have hN:(N==0)=true:=by rw [hE] at hcb;simpa using hcb
     clear hcb hc hcut
     (unfold Gives;go_enter Tryz.func124,Tryz.ntmps124)
     go_wp2_with (first|(go_at_call 123;refine (HWI.out _).mono ?_;intro _)|(go_at_call 122;refine (HC.out _).mono ?_;intro _))
     (refine bodyPost_give Up.go rfl ⟨_,(by simp [results,Tryz.results124,go_sem];rfl),?_⟩)
     rfl
   · clear hcb hc hcut
     (unfold Gives;go_enter Tryz.func124,Tryz.ntmps124)
     go_wp2_with (first|(go_at_call 123;refine (HWI.out _).mono ?_;intro _)|(go_at_call 122;refine (HC.out _).mono ?_;intro _))
     (refine bodyPost_give Up.go rfl ⟨_,(by simp [results,Tryz.results124,go_sem];rfl),?_⟩)
     rfl
 rw [if_pos hc]
 obtain ⟨rfl,hN0⟩:=hc
 have hN:(N==0)=false:=by simpa using hN0
 clear hN0
 have hi4:I=0∨I=1∨I=2∨I=3:=by have:=HI.out;omega
 have b0:=hcut 0 (by omega)
 have b1:=hcut 1 (by omega)
 have b2:=hcut 2 (by omega)
 have b3:=hcut 3 (by omega)
 obtain ⟨x0,x1,y0,y1,u0,u1,v0,v1⟩:=b
 unfold loL hiL at b0 b1 b2 b3
 simp only [List.getD_cons_zero,List.getD_cons_succ] at b0 b1 b2 b3
 have HC0:=hide (fun W=>qcut_any b0.1 b0.2 W)
 have HC1:=hide (fun W=>qcut_any b1.1 b1.2 W)
 have HC2:=hide (fun W=>qcut_any b2.1 b2.2 W)
 have HC3:=hide (fun W=>qcut_any b3.1 b3.2 W)
 obtain ⟨CB,hCB⟩:∃ c,c=cutB ⟨x0,x1,y0,y1,u0,u1,v0,v1⟩ I:=⟨_,rfl⟩
 rw [← hCB]
 obtain ⟨⟨p0,p1,p2,p3,p4,p5,p6,p7⟩,q0,q1,q2,q3,q4,q5,q6,q7⟩:=CB
 have HEQ:=hide hCB
 clear hCB
 unfold boxA at HWI HC ⊢
 dsimp only at HWI HC ⊢
 clear hn HI hcut b0 b1 b2 b3
 (unfold Gives;go_enter Tryz.func124,Tryz.ntmps124)
 go_wp2_with (first|(go_at_call 123;refine (HWI.out _).mono ?_;intro _)|(go_at_call 122;refine (HC.out _).mono ?_;intro _))
 refine forgetW (fun U=>Up w U∧Box U w.heap.size #[.int .i64 (x0),.int .i64 (x1),.int .i64 (y0),.int .i64 (y1),.int .i64 (u0),.int .i64 (u1),.int .i64 (v0),.int .i64 (v1)] 69∧Box U (w.heap.size+1) #[.int .i64 (0),.int .i64 (0),.int .i64 (0),.int .i64 (0),.int .i64 (0),.int .i64 (0),.int .i64 (0),.int .i64 (0)] 69∧Box U (w.heap.size+1+1) #[.int .i64 (0),.int .i64 (0),.int .i64 (0),.int .i64 (0),.int .i64 (0),.int .i64 (0),.int .i64 (0),.int .i64 (0)] 69) ⟨Up.go,Box.go,Box.go,Box.go⟩ ?_
 intro V0 h0
 have H0:=hide h0
 clear h0
 obtain ⟨a0,a1,a2,a3,a4,a5,a6,a7⟩:=(H0.out.2.1).c8
 have la:=(H0.out.2.1).lt
 obtain ⟨fza0,fza1,fza2,fza3,fza4,fza5,fza6,fza7⟩:=(H0.out.2.1).f8
 refine wp_via (fun a a' W=>∃ p q:Nat,a'={ a with tmps:=(((a.tmps.setIfInBounds 7 (.pointer (some ⟨p,0,none⟩))).setIfInBounds 8 (.pointer (some ⟨q,0,none⟩))).setIfInBounds 23 (.agg #[.int .i64 (x0),.int .i64 (x1),.int .i64 (y0),.int .i64 (y1),.int .i64 (u0),.int .i64 (u1),.int .i64 (v0),.int .i64 (v1)])).setIfInBounds 24 (.agg #[.int .i64 (x0),.int .i64 (x1),.int .i64 (y0),.int .i64 (y1),.int .i64 (u0),.int .i64 (u1),.int .i64 (v0),.int .i64 (v1)]) } ∧
  Up V0 W∧Box W p #[.int .i64 (x0),.int .i64 (x1),.int .i64 (y0),.int .i64 (y1),.int .i64 (u0),.int .i64 (u1),.int .i64 (v0),.int .i64 (v1)] 69∧Box W q #[.int .i64 (x0),.int .i64 (x1),.int .i64 (y0),.int .i64 (y1),.int .i64 (u0),.int .i64 (u1),.int .i64 (v0),.int .i64 (v1)] 69∧V0.heap.size≤p∧V0.heap.size≤q∧p≠q) ?_ ?_
 · intro K HQ
   go_region
   all_goals refine HQ.out _ _ ?_
   all_goals clear HQ
   · exact ⟨V0.heap.size,V0.heap.size+1,by kernel_rfl,Up.go,Box.go,Box.go,by omega,by omega,by omega⟩
   · exact ⟨V0.heap.size+1,V0.heap.size,by kernel_rfl,Up.go,Box.go,Box.go,by omega,by omega,by omega⟩
 rintro a' W ⟨p,q,rfl,hu,bp,bq,hp,hq,hpq⟩
 simp only [List.setIfInBounds_toArray,List.set_cons_zero,List.set_cons_succ]
 have hsz:=H0.out.1.below.size
 have l2:=H0.out.2.2.2.lt
 have hqp:=Ne.symm hpq
 have Np1:p≠w.heap.size+1:=by omega
 have Np2:p≠w.heap.size+1+1:=by omega
 have Nq1:q≠w.heap.size+1:=by omega
 have Nq2:q≠w.heap.size+1+1:=by omega
 have N12:w.heap.size+1≠w.heap.size+1+1:=by omega
 have N21:w.heap.size+1+1≠w.heap.size+1:=by omega
 have H1:=hide (And.intro (H0.out.1.trans hu) (And.intro (H0.out.2.1.up hu) (And.intro (H0.out.2.2.1.up hu) (And.intro (H0.out.2.2.2.up hu) (And.intro bp bq)))))
 clear hu bp bq H0 a0 a1 a2 a3 a4 a5 a6 a7 la fza0 fza1 fza2 fza3 fza4 fza5 fza6 fza7 HC HWI
 unfold Exit.then
 dsimp only
 rcases hi4 with rfl | rfl | rfl | rfl
 · have HCk:=hide HC0.out
   have hCB:=HEQ.out.symm
   clear HC0 HC1 HC2 HC3 HEQ
   rw [show cutB ⟨x0,x1,y0,y1,u0,u1,v0,v1⟩ 0=(⟨x0,(x0+x1) / 2,y0,y1,u0,u1,v0,v1⟩,⟨(x0+x1) / 2+1,x1,y0,y1,u0,u1,v0,v1⟩) from rfl] at hCB
   generalize (x0+x1) / 2=m at *
   simp only [Prod.mk.injEq,BoxD.mk.injEq] at hCB
   obtain ⟨⟨rfl,rfl,rfl,rfl,rfl,rfl,rfl,rfl⟩,rfl,rfl,rfl,rfl,rfl,rfl,rfl,rfl⟩:=hCB
   obtain ⟨a0,a1,a2,a3,a4,a5,a6,a7⟩:=(H1.out.2.1).c8
   have la:=(H1.out.2.1).lt
   obtain ⟨fza0,fza1,fza2,fza3,fza4,fza5,fza6,fza7⟩:=(H1.out.2.1).f8
   obtain ⟨b0,b1,b2,b3,b4,b5,b6,b7⟩:=(H1.out.2.2.2.2.1).c8
   have lb:=(H1.out.2.2.2.2.1).lt
   obtain ⟨fzb0,fzb1,fzb2,fzb3,fzb4,fzb5,fzb6,fzb7⟩:=(H1.out.2.2.2.2.1).f8
   obtain ⟨c0,c1,c2,c3,c4,c5,c6,c7⟩:=(H1.out.2.2.2.2.2).c8
   have lc:=(H1.out.2.2.2.2.2).lt
   obtain ⟨fzc0,fzc1,fzc2,fzc3,fzc4,fzc5,fzc6,fzc7⟩:=(H1.out.2.2.2.2.2).f8
   go_wp2_with (go_at_call 168;refine (HCk.out _).mono ?_;intro _)
   refine forgetW (fun U=>Up w U∧Box U (w.heap.size+1) #[.int .i64 (0),.int .i64 (0),.int .i64 (0),.int .i64 (0),.int .i64 (0),.int .i64 (0),.int .i64 (0),.int .i64 (0)] 69∧Box U (w.heap.size+1+1) #[.int .i64 (0),.int .i64 (0),.int .i64 (0),.int .i64 (0),.int .i64 (0),.int .i64 (0),.int .i64 (0),.int .i64 (0)] 69∧Box U p #[.int .i64 (x0),.int .i64 (m),.int .i64 (y0),.int .i64 (y1),.int .i64 (u0),.int .i64 (u1),.int .i64 (v0),.int .i64 (v1)] 69∧Box U q #[.int .i64 ((m+1)),.int .i64 (x1),.int .i64 (y0),.int .i64 (y1),.int .i64 (u0),.int .i64 (u1),.int .i64 (v0),.int .i64 (v1)] 69) ⟨((((H1.out.1.setCell (q:=⟨p,0,none⟩) (by show w.heap.size≤p;omega) _).setCell (q:=⟨p,1,none⟩) (by show w.heap.size≤p;omega) _).setCell (q:=⟨q,0,none⟩) (by show w.heap.size≤q;omega) _).setCell (q:=⟨q,1,none⟩) (by show w.heap.size≤q;omega) _).ext _,((((H1.out.2.2.1.other (by omega) 0 _).other (by omega) 1 _).other (by omega) 0 _).other (by omega) 1 _).ext _,((((H1.out.2.2.2.1.other (by omega) 0 _).other (by omega) 1 _).other (by omega) 0 _).other (by omega) 1 _).ext _,((((H1.out.2.2.2.2.1.set 0 (.int .i64 x0)).set 1 (.int .i64 m)).other hpq 0 _).other hpq 1 _).ext _,((((H1.out.2.2.2.2.2.other hqp 0 _).other hqp 1 _).set 0 (.int .i64 (m+1))).set 1 (.int .i64 x1)).ext _⟩ ?_
   clear H1 HCk a0 a1 a2 a3 a4 a5 a6 a7 la fza0 fza1 fza2 fza3 fza4 fza5 fza6 fza7 b0 b1 b2 b3 b4 b5 b6 b7 lb fzb0 fzb1 fzb2 fzb3 fzb4 fzb5 fzb6 fzb7 c0 c1 c2 c3 c4 c5 c6 c7 lc fzc0 fzc1 fzc2 fzc3 fzc4 fzc5 fzc6 fzc7
   intro V1 h1
   have H2:=hide h1
   clear h1
   have hS0:=hide (show Box V1.drew p #[.int .i64 (x0),.int .i64 (m),.int .i64 (y0),.int .i64 (y1),.int .i64 (u0),.int .i64 (u1),.int .i64 (v0),.int .i64 (v1)] 69∧Box V1.drew q #[.int .i64 ((m+1)),.int .i64 (x1),.int .i64 (y0),.int .i64 (y1),.int .i64 (u0),.int .i64 (u1),.int .i64 (v0),.int .i64 (v1)] 69 from ⟨H2.out.2.2.2.1.drew,H2.out.2.2.2.2.drew⟩)
   refine wp_region_L (fun W'=>Box W' p #[.int .i64 (x0),.int .i64 (m),.int .i64 (y0),.int .i64 (y1),.int .i64 (u0),.int .i64 (u1),.int .i64 (v0),.int .i64 (v1)] 69∧Box W' q #[.int .i64 ((m+1)),.int .i64 (x1),.int .i64 (y0),.int .i64 (y1),.int .i64 (u0),.int .i64 (u1),.int .i64 (v0),.int .i64 (v1)] 69) 4 (by kernel_rfl) ?_
   refine anyL_take 0 (v:=.agg #[.int .i64 (x0),.int .i64 (m),.int .i64 (y0),.int .i64 (y1),.int .i64 (u0),.int .i64 (u1),.int .i64 (v0),.int .i64 (v1)]) rfl (by kernel_rfl) (fun _ _ _ h=>h) (.inl ⟨rfl,fun W' hW'=>by have e0:=Box.cell hW'.1 0 rfl;have e1:=Box.cell hW'.1 1 rfl;have e2:=Box.cell hW'.1 2 rfl;have e3:=Box.cell hW'.1 3 rfl;have e4:=Box.cell hW'.1 4 rfl;have e5:=Box.cell hW'.1 5 rfl;have e6:=Box.cell hW'.1 6 rfl;have e7:=Box.cell hW'.1 7 rfl;simp [go_sem,e0,e1,e2,e3,e4,e5,e6,e7]⟩) hS0.out ?_
   simp only [Act.put,List.setIfInBounds_toArray,List.set_cons_zero,List.set_cons_succ]
   refine anyL_take 1 (v:=.agg #[.int .i64 ((m+1)),.int .i64 (x1),.int .i64 (y0),.int .i64 (y1),.int .i64 (u0),.int .i64 (u1),.int .i64 (v0),.int .i64 (v1)]) rfl (by kernel_rfl) (fun _ _ _ h=>h) (.inl ⟨rfl,fun W' hW'=>by have e0:=Box.cell hW'.2 0 rfl;have e1:=Box.cell hW'.2 1 rfl;have e2:=Box.cell hW'.2 2 rfl;have e3:=Box.cell hW'.2 3 rfl;have e4:=Box.cell hW'.2 4 rfl;have e5:=Box.cell hW'.2 5 rfl;have e6:=Box.cell hW'.2 6 rfl;have e7:=Box.cell hW'.2 7 rfl;simp [go_sem,e0,e1,e2,e3,e4,e5,e6,e7]⟩) hS0.out ?_
   simp only [Act.put,List.setIfInBounds_toArray,List.set_cons_zero,List.set_cons_succ]
   obtain ⟨a0,a1,a2,a3,a4,a5,a6,a7⟩:=(H2.out.2.1).c8
   have la:=(H2.out.2.1).lt
   obtain ⟨fza0,fza1,fza2,fza3,fza4,fza5,fza6,fza7⟩:=(H2.out.2.1).f8
   obtain ⟨b0,b1,b2,b3,b4,b5,b6,b7⟩:=(H2.out.2.2.1).c8
   have lb:=(H2.out.2.2.1).lt
   obtain ⟨fzb0,fzb1,fzb2,fzb3,fzb4,fzb5,fzb6,fzb7⟩:=(H2.out.2.2.1).f8
   refine anyL_one (i:=2) (by kernel_rfl) rfl (fun K HK=>?_)
   go_wp2_with fail
   refine HK.out _ _ (fun _=>⟨(H2.out.2.2.2.1.other8 Np1 _ _ _ _ _ _ _ _).drew,(H2.out.2.2.2.2.other8 Nq1 _ _ _ _ _ _ _ _).drew⟩) ?_
   clear HK
   refine anyL_one (i:=3) (by kernel_rfl) rfl (fun K HK=>?_)
   go_wp2_with fail
   refine HK.out _ _ (fun _=>⟨((H2.out.2.2.2.1.other8 Np1 _ _ _ _ _ _ _ _).other8 Np2 _ _ _ _ _ _ _ _).drew,((H2.out.2.2.2.2.other8 Nq1 _ _ _ _ _ _ _ _).other8 Nq2 _ _ _ _ _ _ _ _).drew⟩) ?_
   clear HK
   refine anyL_one (i:=4) (by kernel_rfl) rfl (fun K HK=>?_)
   go_wp2_with fail
   refine HK.out _ _ (fun h=>(h rfl).elim) ?_
   clear HK
   refine anyL_done (by kernel_rfl) ?_
   go_wp2_with fail
   refine forgetW (fun U=>Up w U∧Box U (w.heap.size+1) #[.int .i64 (x0),.int .i64 (m),.int .i64 (y0),.int .i64 (y1),.int .i64 (u0),.int .i64 (u1),.int .i64 (v0),.int .i64 (v1)] 69∧Box U (w.heap.size+1+1) #[.int .i64 ((m+1)),.int .i64 (x1),.int .i64 (y0),.int .i64 (y1),.int .i64 (u0),.int .i64 (u1),.int .i64 (v0),.int .i64 (v1)] 69) ?_ ?_
   · exact ⟨((H2.out.1.set8 (show w.heap.size≤w.heap.size+1 by omega) _ _ _ _ _ _ _ _).set8 (show w.heap.size≤w.heap.size+1+1 by omega) _ _ _ _ _ _ _ _).drew,((H2.out.2.1.put8 (.int .i64 x0) (.int .i64 m) (.int .i64 y0) (.int .i64 y1) (.int .i64 u0) (.int .i64 u1) (.int .i64 v0) (.int .i64 v1)).other8 N12 _ _ _ _ _ _ _ _).drew,((H2.out.2.2.1.other8 N21 _ _ _ _ _ _ _ _).put8 (.int .i64 (m+1)) (.int .i64 x1) (.int .i64 y0) (.int .i64 y1) (.int .i64 u0) (.int .i64 u1) (.int .i64 v0) (.int .i64 v1)).drew⟩
   clear H2 hS0 a0 a1 a2 a3 a4 a5 a6 a7 la fza0 fza1 fza2 fza3 fza4 fza5 fza6 fza7 b0 b1 b2 b3 b4 b5 b6 b7 lb fzb0 fzb1 fzb2 fzb3 fzb4 fzb5 fzb6 fzb7
   rintro U ⟨hu,b1,b2⟩
   have e0:=b1.cell 0 rfl
   have f0:=b2.cell 0 rfl
   have e1:=b1.cell 1 rfl
   have f1:=b2.cell 1 rfl
   have e2:=b1.cell 2 rfl
   have f2:=b2.cell 2 rfl
   have e3:=b1.cell 3 rfl
   have f3:=b2.cell 3 rfl
   have e4:=b1.cell 4 rfl
   have f4:=b2.cell 4 rfl
   have e5:=b1.cell 5 rfl
   have f5:=b2.cell 5 rfl
   have e6:=b1.cell 6 rfl
   have f6:=b2.cell 6 rfl
   have e7:=b1.cell 7 rfl
   have f7:=b2.cell 7 rfl
   refine bodyPost_give hu rfl ⟨_,(by simp [results,Tryz.results124,go_sem,e0,e1,e2,e3,e4,e5,e6,e7,f0,f1,f2,f3,f4,f5,f6,f7];rfl),?_⟩
   rfl
 · have HCk:=hide HC1.out
   have hCB:=HEQ.out.symm
   clear HC0 HC1 HC2 HC3 HEQ
   rw [show cutB ⟨x0,x1,y0,y1,u0,u1,v0,v1⟩ 1=(⟨x0,x1,y0,(y0+y1) / 2,u0,u1,v0,v1⟩,⟨x0,x1,(y0+y1) / 2+1,y1,u0,u1,v0,v1⟩) from rfl] at hCB
   generalize (y0+y1) / 2=m at *
   simp only [Prod.mk.injEq,BoxD.mk.injEq] at hCB
   obtain ⟨⟨rfl,rfl,rfl,rfl,rfl,rfl,rfl,rfl⟩,rfl,rfl,rfl,rfl,rfl,rfl,rfl,rfl⟩:=hCB
   obtain ⟨a0,a1,a2,a3,a4,a5,a6,a7⟩:=(H1.out.2.1).c8
   have la:=(H1.out.2.1).lt
   obtain ⟨fza0,fza1,fza2,fza3,fza4,fza5,fza6,fza7⟩:=(H1.out.2.1).f8
   obtain ⟨b0,b1,b2,b3,b4,b5,b6,b7⟩:=(H1.out.2.2.2.2.1).c8
   have lb:=(H1.out.2.2.2.2.1).lt
   obtain ⟨fzb0,fzb1,fzb2,fzb3,fzb4,fzb5,fzb6,fzb7⟩:=(H1.out.2.2.2.2.1).f8
   obtain ⟨c0,c1,c2,c3,c4,c5,c6,c7⟩:=(H1.out.2.2.2.2.2).c8
   have lc:=(H1.out.2.2.2.2.2).lt
   obtain ⟨fzc0,fzc1,fzc2,fzc3,fzc4,fzc5,fzc6,fzc7⟩:=(H1.out.2.2.2.2.2).f8
   go_wp2_with (go_at_call 168;refine (HCk.out _).mono ?_;intro _)
   refine forgetW (fun U=>Up w U∧Box U (w.heap.size+1) #[.int .i64 (0),.int .i64 (0),.int .i64 (0),.int .i64 (0),.int .i64 (0),.int .i64 (0),.int .i64 (0),.int .i64 (0)] 69∧Box U (w.heap.size+1+1) #[.int .i64 (0),.int .i64 (0),.int .i64 (0),.int .i64 (0),.int .i64 (0),.int .i64 (0),.int .i64 (0),.int .i64 (0)] 69∧Box U p #[.int .i64 (x0),.int .i64 (x1),.int .i64 (y0),.int .i64 (m),.int .i64 (u0),.int .i64 (u1),.int .i64 (v0),.int .i64 (v1)] 69∧Box U q #[.int .i64 (x0),.int .i64 (x1),.int .i64 ((m+1)),.int .i64 (y1),.int .i64 (u0),.int .i64 (u1),.int .i64 (v0),.int .i64 (v1)] 69) ⟨((((H1.out.1.setCell (q:=⟨p,2,none⟩) (by show w.heap.size≤p;omega) _).setCell (q:=⟨p,3,none⟩) (by show w.heap.size≤p;omega) _).setCell (q:=⟨q,2,none⟩) (by show w.heap.size≤q;omega) _).setCell (q:=⟨q,3,none⟩) (by show w.heap.size≤q;omega) _).ext _,((((H1.out.2.2.1.other (by omega) 2 _).other (by omega) 3 _).other (by omega) 2 _).other (by omega) 3 _).ext _,((((H1.out.2.2.2.1.other (by omega) 2 _).other (by omega) 3 _).other (by omega) 2 _).other (by omega) 3 _).ext _,((((H1.out.2.2.2.2.1.set 2 (.int .i64 y0)).set 3 (.int .i64 m)).other hpq 2 _).other hpq 3 _).ext _,((((H1.out.2.2.2.2.2.other hqp 2 _).other hqp 3 _).set 2 (.int .i64 (m+1))).set 3 (.int .i64 y1)).ext _⟩ ?_
   clear H1 HCk a0 a1 a2 a3 a4 a5 a6 a7 la fza0 fza1 fza2 fza3 fza4 fza5 fza6 fza7 b0 b1 b2 b3 b4 b5 b6 b7 lb fzb0 fzb1 fzb2 fzb3 fzb4 fzb5 fzb6 fzb7 c0 c1 c2 c3 c4 c5 c6 c7 lc fzc0 fzc1 fzc2 fzc3 fzc4 fzc5 fzc6 fzc7
   intro V1 h1
   have H2:=hide h1
   clear h1
   have hS0:=hide (show Box V1.drew p #[.int .i64 (x0),.int .i64 (x1),.int .i64 (y0),.int .i64 (m),.int .i64 (u0),.int .i64 (u1),.int .i64 (v0),.int .i64 (v1)] 69∧Box V1.drew q #[.int .i64 (x0),.int .i64 (x1),.int .i64 ((m+1)),.int .i64 (y1),.int .i64 (u0),.int .i64 (u1),.int .i64 (v0),.int .i64 (v1)] 69 from ⟨H2.out.2.2.2.1.drew,H2.out.2.2.2.2.drew⟩)
   refine wp_region_L (fun W'=>Box W' p #[.int .i64 (x0),.int .i64 (x1),.int .i64 (y0),.int .i64 (m),.int .i64 (u0),.int .i64 (u1),.int .i64 (v0),.int .i64 (v1)] 69∧Box W' q #[.int .i64 (x0),.int .i64 (x1),.int .i64 ((m+1)),.int .i64 (y1),.int .i64 (u0),.int .i64 (u1),.int .i64 (v0),.int .i64 (v1)] 69) 4 (by kernel_rfl) ?_
   refine anyL_take 0 (v:=.agg #[.int .i64 (x0),.int .i64 (x1),.int .i64 (y0),.int .i64 (m),.int .i64 (u0),.int .i64 (u1),.int .i64 (v0),.int .i64 (v1)]) rfl (by kernel_rfl) (fun _ _ _ h=>h) (.inl ⟨rfl,fun W' hW'=>by have e0:=Box.cell hW'.1 0 rfl;have e1:=Box.cell hW'.1 1 rfl;have e2:=Box.cell hW'.1 2 rfl;have e3:=Box.cell hW'.1 3 rfl;have e4:=Box.cell hW'.1 4 rfl;have e5:=Box.cell hW'.1 5 rfl;have e6:=Box.cell hW'.1 6 rfl;have e7:=Box.cell hW'.1 7 rfl;simp [go_sem,e0,e1,e2,e3,e4,e5,e6,e7]⟩) hS0.out ?_
   simp only [Act.put,List.setIfInBounds_toArray,List.set_cons_zero,List.set_cons_succ]
   refine anyL_take 1 (v:=.agg #[.int .i64 (x0),.int .i64 (x1),.int .i64 ((m+1)),.int .i64 (y1),.int .i64 (u0),.int .i64 (u1),.int .i64 (v0),.int .i64 (v1)]) rfl (by kernel_rfl) (fun _ _ _ h=>h) (.inl ⟨rfl,fun W' hW'=>by have e0:=Box.cell hW'.2 0 rfl;have e1:=Box.cell hW'.2 1 rfl;have e2:=Box.cell hW'.2 2 rfl;have e3:=Box.cell hW'.2 3 rfl;have e4:=Box.cell hW'.2 4 rfl;have e5:=Box.cell hW'.2 5 rfl;have e6:=Box.cell hW'.2 6 rfl;have e7:=Box.cell hW'.2 7 rfl;simp [go_sem,e0,e1,e2,e3,e4,e5,e6,e7]⟩) hS0.out ?_
   simp only [Act.put,List.setIfInBounds_toArray,List.set_cons_zero,List.set_cons_succ]
   obtain ⟨a0,a1,a2,a3,a4,a5,a6,a7⟩:=(H2.out.2.1).c8
   have la:=(H2.out.2.1).lt
   obtain ⟨fza0,fza1,fza2,fza3,fza4,fza5,fza6,fza7⟩:=(H2.out.2.1).f8
   obtain ⟨b0,b1,b2,b3,b4,b5,b6,b7⟩:=(H2.out.2.2.1).c8
   have lb:=(H2.out.2.2.1).lt
   obtain ⟨fzb0,fzb1,fzb2,fzb3,fzb4,fzb5,fzb6,fzb7⟩:=(H2.out.2.2.1).f8
   refine anyL_one (i:=2) (by kernel_rfl) rfl (fun K HK=>?_)
   go_wp2_with fail
   refine HK.out _ _ (fun _=>⟨(H2.out.2.2.2.1.other8 Np1 _ _ _ _ _ _ _ _).drew,(H2.out.2.2.2.2.other8 Nq1 _ _ _ _ _ _ _ _).drew⟩) ?_
   clear HK
   refine anyL_one (i:=3) (by kernel_rfl) rfl (fun K HK=>?_)
   go_wp2_with fail
   refine HK.out _ _ (fun _=>⟨((H2.out.2.2.2.1.other8 Np1 _ _ _ _ _ _ _ _).other8 Np2 _ _ _ _ _ _ _ _).drew,((H2.out.2.2.2.2.other8 Nq1 _ _ _ _ _ _ _ _).other8 Nq2 _ _ _ _ _ _ _ _).drew⟩) ?_
   clear HK
   refine anyL_one (i:=4) (by kernel_rfl) rfl (fun K HK=>?_)
   go_wp2_with fail
   refine HK.out _ _ (fun h=>(h rfl).elim) ?_
   clear HK
   refine anyL_done (by kernel_rfl) ?_
   go_wp2_with fail
   refine forgetW (fun U=>Up w U∧Box U (w.heap.size+1) #[.int .i64 (x0),.int .i64 (x1),.int .i64 (y0),.int .i64 (m),.int .i64 (u0),.int .i64 (u1),.int .i64 (v0),.int .i64 (v1)] 69∧Box U (w.heap.size+1+1) #[.int .i64 (x0),.int .i64 (x1),.int .i64 ((m+1)),.int .i64 (y1),.int .i64 (u0),.int .i64 (u1),.int .i64 (v0),.int .i64 (v1)] 69) ?_ ?_
   · exact ⟨((H2.out.1.set8 (show w.heap.size≤w.heap.size+1 by omega) _ _ _ _ _ _ _ _).set8 (show w.heap.size≤w.heap.size+1+1 by omega) _ _ _ _ _ _ _ _).drew,((H2.out.2.1.put8 (.int .i64 x0) (.int .i64 x1) (.int .i64 y0) (.int .i64 m) (.int .i64 u0) (.int .i64 u1) (.int .i64 v0) (.int .i64 v1)).other8 N12 _ _ _ _ _ _ _ _).drew,((H2.out.2.2.1.other8 N21 _ _ _ _ _ _ _ _).put8 (.int .i64 x0) (.int .i64 x1) (.int .i64 (m+1)) (.int .i64 y1) (.int .i64 u0) (.int .i64 u1) (.int .i64 v0) (.int .i64 v1)).drew⟩
   clear H2 hS0 a0 a1 a2 a3 a4 a5 a6 a7 la fza0 fza1 fza2 fza3 fza4 fza5 fza6 fza7 b0 b1 b2 b3 b4 b5 b6 b7 lb fzb0 fzb1 fzb2 fzb3 fzb4 fzb5 fzb6 fzb7
   rintro U ⟨hu,b1,b2⟩
   have e0:=b1.cell 0 rfl
   have f0:=b2.cell 0 rfl
   have e1:=b1.cell 1 rfl
   have f1:=b2.cell 1 rfl
   have e2:=b1.cell 2 rfl
   have f2:=b2.cell 2 rfl
   have e3:=b1.cell 3 rfl
   have f3:=b2.cell 3 rfl
   have e4:=b1.cell 4 rfl
   have f4:=b2.cell 4 rfl
   have e5:=b1.cell 5 rfl
   have f5:=b2.cell 5 rfl
   have e6:=b1.cell 6 rfl
   have f6:=b2.cell 6 rfl
   have e7:=b1.cell 7 rfl
   have f7:=b2.cell 7 rfl
   refine bodyPost_give hu rfl ⟨_,(by simp [results,Tryz.results124,go_sem,e0,e1,e2,e3,e4,e5,e6,e7,f0,f1,f2,f3,f4,f5,f6,f7];rfl),?_⟩
   rfl
 · have HCk:=hide HC2.out
   have hCB:=HEQ.out.symm
   clear HC0 HC1 HC2 HC3 HEQ
   rw [show cutB ⟨x0,x1,y0,y1,u0,u1,v0,v1⟩ 2=(⟨x0,x1,y0,y1,u0,(u0+u1) / 2,v0,v1⟩,⟨x0,x1,y0,y1,(u0+u1) / 2+1,u1,v0,v1⟩) from rfl] at hCB
   generalize (u0+u1) / 2=m at *
   simp only [Prod.mk.injEq,BoxD.mk.injEq] at hCB
   obtain ⟨⟨rfl,rfl,rfl,rfl,rfl,rfl,rfl,rfl⟩,rfl,rfl,rfl,rfl,rfl,rfl,rfl,rfl⟩:=hCB
   obtain ⟨a0,a1,a2,a3,a4,a5,a6,a7⟩:=(H1.out.2.1).c8
   have la:=(H1.out.2.1).lt
   obtain ⟨fza0,fza1,fza2,fza3,fza4,fza5,fza6,fza7⟩:=(H1.out.2.1).f8
   obtain ⟨b0,b1,b2,b3,b4,b5,b6,b7⟩:=(H1.out.2.2.2.2.1).c8
   have lb:=(H1.out.2.2.2.2.1).lt
   obtain ⟨fzb0,fzb1,fzb2,fzb3,fzb4,fzb5,fzb6,fzb7⟩:=(H1.out.2.2.2.2.1).f8
   obtain ⟨c0,c1,c2,c3,c4,c5,c6,c7⟩:=(H1.out.2.2.2.2.2).c8
   have lc:=(H1.out.2.2.2.2.2).lt
   obtain ⟨fzc0,fzc1,fzc2,fzc3,fzc4,fzc5,fzc6,fzc7⟩:=(H1.out.2.2.2.2.2).f8
   go_wp2_with (go_at_call 168;refine (HCk.out _).mono ?_;intro _)
   refine forgetW (fun U=>Up w U∧Box U (w.heap.size+1) #[.int .i64 (0),.int .i64 (0),.int .i64 (0),.int .i64 (0),.int .i64 (0),.int .i64 (0),.int .i64 (0),.int .i64 (0)] 69∧Box U (w.heap.size+1+1) #[.int .i64 (0),.int .i64 (0),.int .i64 (0),.int .i64 (0),.int .i64 (0),.int .i64 (0),.int .i64 (0),.int .i64 (0)] 69∧Box U p #[.int .i64 (x0),.int .i64 (x1),.int .i64 (y0),.int .i64 (y1),.int .i64 (u0),.int .i64 (m),.int .i64 (v0),.int .i64 (v1)] 69∧Box U q #[.int .i64 (x0),.int .i64 (x1),.int .i64 (y0),.int .i64 (y1),.int .i64 ((m+1)),.int .i64 (u1),.int .i64 (v0),.int .i64 (v1)] 69) ⟨((((H1.out.1.setCell (q:=⟨p,4,none⟩) (by show w.heap.size≤p;omega) _).setCell (q:=⟨p,5,none⟩) (by show w.heap.size≤p;omega) _).setCell (q:=⟨q,4,none⟩) (by show w.heap.size≤q;omega) _).setCell (q:=⟨q,5,none⟩) (by show w.heap.size≤q;omega) _).ext _,((((H1.out.2.2.1.other (by omega) 4 _).other (by omega) 5 _).other (by omega) 4 _).other (by omega) 5 _).ext _,((((H1.out.2.2.2.1.other (by omega) 4 _).other (by omega) 5 _).other (by omega) 4 _).other (by omega) 5 _).ext _,((((H1.out.2.2.2.2.1.set 4 (.int .i64 u0)).set 5 (.int .i64 m)).other hpq 4 _).other hpq 5 _).ext _,((((H1.out.2.2.2.2.2.other hqp 4 _).other hqp 5 _).set 4 (.int .i64 (m+1))).set 5 (.int .i64 u1)).ext _⟩ ?_
   clear H1 HCk a0 a1 a2 a3 a4 a5 a6 a7 la fza0 fza1 fza2 fza3 fza4 fza5 fza6 fza7 b0 b1 b2 b3 b4 b5 b6 b7 lb fzb0 fzb1 fzb2 fzb3 fzb4 fzb5 fzb6 fzb7 c0 c1 c2 c3 c4 c5 c6 c7 lc fzc0 fzc1 fzc2 fzc3 fzc4 fzc5 fzc6 fzc7
   intro V1 h1
   have H2:=hide h1
   clear h1
   have hS0:=hide (show Box V1.drew p #[.int .i64 (x0),.int .i64 (x1),.int .i64 (y0),.int .i64 (y1),.int .i64 (u0),.int .i64 (m),.int .i64 (v0),.int .i64 (v1)] 69∧Box V1.drew q #[.int .i64 (x0),.int .i64 (x1),.int .i64 (y0),.int .i64 (y1),.int .i64 ((m+1)),.int .i64 (u1),.int .i64 (v0),.int .i64 (v1)] 69 from ⟨H2.out.2.2.2.1.drew,H2.out.2.2.2.2.drew⟩)
   refine wp_region_L (fun W'=>Box W' p #[.int .i64 (x0),.int .i64 (x1),.int .i64 (y0),.int .i64 (y1),.int .i64 (u0),.int .i64 (m),.int .i64 (v0),.int .i64 (v1)] 69∧Box W' q #[.int .i64 (x0),.int .i64 (x1),.int .i64 (y0),.int .i64 (y1),.int .i64 ((m+1)),.int .i64 (u1),.int .i64 (v0),.int .i64 (v1)] 69) 4 (by kernel_rfl) ?_
   refine anyL_take 0 (v:=.agg #[.int .i64 (x0),.int .i64 (x1),.int .i64 (y0),.int .i64 (y1),.int .i64 (u0),.int .i64 (m),.int .i64 (v0),.int .i64 (v1)]) rfl (by kernel_rfl) (fun _ _ _ h=>h) (.inl ⟨rfl,fun W' hW'=>by have e0:=Box.cell hW'.1 0 rfl;have e1:=Box.cell hW'.1 1 rfl;have e2:=Box.cell hW'.1 2 rfl;have e3:=Box.cell hW'.1 3 rfl;have e4:=Box.cell hW'.1 4 rfl;have e5:=Box.cell hW'.1 5 rfl;have e6:=Box.cell hW'.1 6 rfl;have e7:=Box.cell hW'.1 7 rfl;simp [go_sem,e0,e1,e2,e3,e4,e5,e6,e7]⟩) hS0.out ?_
   simp only [Act.put,List.setIfInBounds_toArray,List.set_cons_zero,List.set_cons_succ]
   refine anyL_take 1 (v:=.agg #[.int .i64 (x0),.int .i64 (x1),.int .i64 (y0),.int .i64 (y1),.int .i64 ((m+1)),.int .i64 (u1),.int .i64 (v0),.int .i64 (v1)]) rfl (by kernel_rfl) (fun _ _ _ h=>h) (.inl ⟨rfl,fun W' hW'=>by have e0:=Box.cell hW'.2 0 rfl;have e1:=Box.cell hW'.2 1 rfl;have e2:=Box.cell hW'.2 2 rfl;have e3:=Box.cell hW'.2 3 rfl;have e4:=Box.cell hW'.2 4 rfl;have e5:=Box.cell hW'.2 5 rfl;have e6:=Box.cell hW'.2 6 rfl;have e7:=Box.cell hW'.2 7 rfl;simp [go_sem,e0,e1,e2,e3,e4,e5,e6,e7]⟩) hS0.out ?_
   simp only [Act.put,List.setIfInBounds_toArray,List.set_cons_zero,List.set_cons_succ]
   obtain ⟨a0,a1,a2,a3,a4,a5,a6,a7⟩:=(H2.out.2.1).c8
   have la:=(H2.out.2.1).lt
   obtain ⟨fza0,fza1,fza2,fza3,fza4,fza5,fza6,fza7⟩:=(H2.out.2.1).f8
   obtain ⟨b0,b1,b2,b3,b4,b5,b6,b7⟩:=(H2.out.2.2.1).c8
   have lb:=(H2.out.2.2.1).lt
   obtain ⟨fzb0,fzb1,fzb2,fzb3,fzb4,fzb5,fzb6,fzb7⟩:=(H2.out.2.2.1).f8
   refine anyL_one (i:=2) (by kernel_rfl) rfl (fun K HK=>?_)
   go_wp2_with fail
   refine HK.out _ _ (fun _=>⟨(H2.out.2.2.2.1.other8 Np1 _ _ _ _ _ _ _ _).drew,(H2.out.2.2.2.2.other8 Nq1 _ _ _ _ _ _ _ _).drew⟩) ?_
   clear HK
   refine anyL_one (i:=3) (by kernel_rfl) rfl (fun K HK=>?_)
   go_wp2_with fail
   refine HK.out _ _ (fun _=>⟨((H2.out.2.2.2.1.other8 Np1 _ _ _ _ _ _ _ _).other8 Np2 _ _ _ _ _ _ _ _).drew,((H2.out.2.2.2.2.other8 Nq1 _ _ _ _ _ _ _ _).other8 Nq2 _ _ _ _ _ _ _ _).drew⟩) ?_
   clear HK
   refine anyL_one (i:=4) (by kernel_rfl) rfl (fun K HK=>?_)
   go_wp2_with fail
   refine HK.out _ _ (fun h=>(h rfl).elim) ?_
   clear HK
   refine anyL_done (by kernel_rfl) ?_
   go_wp2_with fail
   refine forgetW (fun U=>Up w U∧Box U (w.heap.size+1) #[.int .i64 (x0),.int .i64 (x1),.int .i64 (y0),.int .i64 (y1),.int .i64 (u0),.int .i64 (m),.int .i64 (v0),.int .i64 (v1)] 69∧Box U (w.heap.size+1+1) #[.int .i64 (x0),.int .i64 (x1),.int .i64 (y0),.int .i64 (y1),.int .i64 ((m+1)),.int .i64 (u1),.int .i64 (v0),.int .i64 (v1)] 69) ?_ ?_
   · exact ⟨((H2.out.1.set8 (show w.heap.size≤w.heap.size+1 by omega) _ _ _ _ _ _ _ _).set8 (show w.heap.size≤w.heap.size+1+1 by omega) _ _ _ _ _ _ _ _).drew,((H2.out.2.1.put8 (.int .i64 x0) (.int .i64 x1) (.int .i64 y0) (.int .i64 y1) (.int .i64 u0) (.int .i64 m) (.int .i64 v0) (.int .i64 v1)).other8 N12 _ _ _ _ _ _ _ _).drew,((H2.out.2.2.1.other8 N21 _ _ _ _ _ _ _ _).put8 (.int .i64 x0) (.int .i64 x1) (.int .i64 y0) (.int .i64 y1) (.int .i64 (m+1)) (.int .i64 u1) (.int .i64 v0) (.int .i64 v1)).drew⟩
   clear H2 hS0 a0 a1 a2 a3 a4 a5 a6 a7 la fza0 fza1 fza2 fza3 fza4 fza5 fza6 fza7 b0 b1 b2 b3 b4 b5 b6 b7 lb fzb0 fzb1 fzb2 fzb3 fzb4 fzb5 fzb6 fzb7
   rintro U ⟨hu,b1,b2⟩
   have e0:=b1.cell 0 rfl
   have f0:=b2.cell 0 rfl
   have e1:=b1.cell 1 rfl
   have f1:=b2.cell 1 rfl
   have e2:=b1.cell 2 rfl
   have f2:=b2.cell 2 rfl
   have e3:=b1.cell 3 rfl
   have f3:=b2.cell 3 rfl
   have e4:=b1.cell 4 rfl
   have f4:=b2.cell 4 rfl
   have e5:=b1.cell 5 rfl
   have f5:=b2.cell 5 rfl
   have e6:=b1.cell 6 rfl
   have f6:=b2.cell 6 rfl
   have e7:=b1.cell 7 rfl
   have f7:=b2.cell 7 rfl
   refine bodyPost_give hu rfl ⟨_,(by simp [results,Tryz.results124,go_sem,e0,e1,e2,e3,e4,e5,e6,e7,f0,f1,f2,f3,f4,f5,f6,f7];rfl),?_⟩
   rfl
 · have HCk:=hide HC3.out
   have hCB:=HEQ.out.symm
   clear HC0 HC1 HC2 HC3 HEQ
   rw [show cutB ⟨x0,x1,y0,y1,u0,u1,v0,v1⟩ 3=(⟨x0,x1,y0,y1,u0,u1,v0,(v0+v1) / 2⟩,⟨x0,x1,y0,y1,u0,u1,(v0+v1) / 2+1,v1⟩) from rfl] at hCB
   generalize (v0+v1) / 2=m at *
   simp only [Prod.mk.injEq,BoxD.mk.injEq] at hCB
   obtain ⟨⟨rfl,rfl,rfl,rfl,rfl,rfl,rfl,rfl⟩,rfl,rfl,rfl,rfl,rfl,rfl,rfl,rfl⟩:=hCB
   obtain ⟨a0,a1,a2,a3,a4,a5,a6,a7⟩:=(H1.out.2.1).c8
   have la:=(H1.out.2.1).lt
   obtain ⟨fza0,fza1,fza2,fza3,fza4,fza5,fza6,fza7⟩:=(H1.out.2.1).f8
   obtain ⟨b0,b1,b2,b3,b4,b5,b6,b7⟩:=(H1.out.2.2.2.2.1).c8
   have lb:=(H1.out.2.2.2.2.1).lt
   obtain ⟨fzb0,fzb1,fzb2,fzb3,fzb4,fzb5,fzb6,fzb7⟩:=(H1.out.2.2.2.2.1).f8
   obtain ⟨c0,c1,c2,c3,c4,c5,c6,c7⟩:=(H1.out.2.2.2.2.2).c8
   have lc:=(H1.out.2.2.2.2.2).lt
   obtain ⟨fzc0,fzc1,fzc2,fzc3,fzc4,fzc5,fzc6,fzc7⟩:=(H1.out.2.2.2.2.2).f8
   go_wp2_with (go_at_call 168;refine (HCk.out _).mono ?_;intro _)
   refine forgetW (fun U=>Up w U∧Box U (w.heap.size+1) #[.int .i64 (0),.int .i64 (0),.int .i64 (0),.int .i64 (0),.int .i64 (0),.int .i64 (0),.int .i64 (0),.int .i64 (0)] 69∧Box U (w.heap.size+1+1) #[.int .i64 (0),.int .i64 (0),.int .i64 (0),.int .i64 (0),.int .i64 (0),.int .i64 (0),.int .i64 (0),.int .i64 (0)] 69∧Box U p #[.int .i64 (x0),.int .i64 (x1),.int .i64 (y0),.int .i64 (y1),.int .i64 (u0),.int .i64 (u1),.int .i64 (v0),.int .i64 (m)] 69∧Box U q #[.int .i64 (x0),.int .i64 (x1),.int .i64 (y0),.int .i64 (y1),.int .i64 (u0),.int .i64 (u1),.int .i64 ((m+1)),.int .i64 (v1)] 69) ⟨((((H1.out.1.setCell (q:=⟨p,6,none⟩) (by show w.heap.size≤p;omega) _).setCell (q:=⟨p,7,none⟩) (by show w.heap.size≤p;omega) _).setCell (q:=⟨q,6,none⟩) (by show w.heap.size≤q;omega) _).setCell (q:=⟨q,7,none⟩) (by show w.heap.size≤q;omega) _).ext _,((((H1.out.2.2.1.other (by omega) 6 _).other (by omega) 7 _).other (by omega) 6 _).other (by omega) 7 _).ext _,((((H1.out.2.2.2.1.other (by omega) 6 _).other (by omega) 7 _).other (by omega) 6 _).other (by omega) 7 _).ext _,((((H1.out.2.2.2.2.1.set 6 (.int .i64 v0)).set 7 (.int .i64 m)).other hpq 6 _).other hpq 7 _).ext _,((((H1.out.2.2.2.2.2.other hqp 6 _).other hqp 7 _).set 6 (.int .i64 (m+1))).set 7 (.int .i64 v1)).ext _⟩ ?_
   clear H1 HCk a0 a1 a2 a3 a4 a5 a6 a7 la fza0 fza1 fza2 fza3 fza4 fza5 fza6 fza7 b0 b1 b2 b3 b4 b5 b6 b7 lb fzb0 fzb1 fzb2 fzb3 fzb4 fzb5 fzb6 fzb7 c0 c1 c2 c3 c4 c5 c6 c7 lc fzc0 fzc1 fzc2 fzc3 fzc4 fzc5 fzc6 fzc7
   intro V1 h1
   have H2:=hide h1
   clear h1
   have hS0:=hide (show Box V1.drew p #[.int .i64 (x0),.int .i64 (x1),.int .i64 (y0),.int .i64 (y1),.int .i64 (u0),.int .i64 (u1),.int .i64 (v0),.int .i64 (m)] 69∧Box V1.drew q #[.int .i64 (x0),.int .i64 (x1),.int .i64 (y0),.int .i64 (y1),.int .i64 (u0),.int .i64 (u1),.int .i64 ((m+1)),.int .i64 (v1)] 69 from ⟨H2.out.2.2.2.1.drew,H2.out.2.2.2.2.drew⟩)
   refine wp_region_L (fun W'=>Box W' p #[.int .i64 (x0),.int .i64 (x1),.int .i64 (y0),.int .i64 (y1),.int .i64 (u0),.int .i64 (u1),.int .i64 (v0),.int .i64 (m)] 69∧Box W' q #[.int .i64 (x0),.int .i64 (x1),.int .i64 (y0),.int .i64 (y1),.int .i64 (u0),.int .i64 (u1),.int .i64 ((m+1)),.int .i64 (v1)] 69) 4 (by kernel_rfl) ?_
   refine anyL_take 0 (v:=.agg #[.int .i64 (x0),.int .i64 (x1),.int .i64 (y0),.int .i64 (y1),.int .i64 (u0),.int .i64 (u1),.int .i64 (v0),.int .i64 (m)]) rfl (by kernel_rfl) (fun _ _ _ h=>h) (.inl ⟨rfl,fun W' hW'=>by have e0:=Box.cell hW'.1 0 rfl;have e1:=Box.cell hW'.1 1 rfl;have e2:=Box.cell hW'.1 2 rfl;have e3:=Box.cell hW'.1 3 rfl;have e4:=Box.cell hW'.1 4 rfl;have e5:=Box.cell hW'.1 5 rfl;have e6:=Box.cell hW'.1 6 rfl;have e7:=Box.cell hW'.1 7 rfl;simp [go_sem,e0,e1,e2,e3,e4,e5,e6,e7]⟩) hS0.out ?_
   simp only [Act.put,List.setIfInBounds_toArray,List.set_cons_zero,List.set_cons_succ]
   refine anyL_take 1 (v:=.agg #[.int .i64 (x0),.int .i64 (x1),.int .i64 (y0),.int .i64 (y1),.int .i64 (u0),.int .i64 (u1),.int .i64 ((m+1)),.int .i64 (v1)]) rfl (by kernel_rfl) (fun _ _ _ h=>h) (.inl ⟨rfl,fun W' hW'=>by have e0:=Box.cell hW'.2 0 rfl;have e1:=Box.cell hW'.2 1 rfl;have e2:=Box.cell hW'.2 2 rfl;have e3:=Box.cell hW'.2 3 rfl;have e4:=Box.cell hW'.2 4 rfl;have e5:=Box.cell hW'.2 5 rfl;have e6:=Box.cell hW'.2 6 rfl;have e7:=Box.cell hW'.2 7 rfl;simp [go_sem,e0,e1,e2,e3,e4,e5,e6,e7]⟩) hS0.out ?_
   simp only [Act.put,List.setIfInBounds_toArray,List.set_cons_zero,List.set_cons_succ]
   obtain ⟨a0,a1,a2,a3,a4,a5,a6,a7⟩:=(H2.out.2.1).c8
   have la:=(H2.out.2.1).lt
   obtain ⟨fza0,fza1,fza2,fza3,fza4,fza5,fza6,fza7⟩:=(H2.out.2.1).f8
   obtain ⟨b0,b1,b2,b3,b4,b5,b6,b7⟩:=(H2.out.2.2.1).c8
   have lb:=(H2.out.2.2.1).lt
   obtain ⟨fzb0,fzb1,fzb2,fzb3,fzb4,fzb5,fzb6,fzb7⟩:=(H2.out.2.2.1).f8
   refine anyL_one (i:=2) (by kernel_rfl) rfl (fun K HK=>?_)
   go_wp2_with fail
   refine HK.out _ _ (fun _=>⟨(H2.out.2.2.2.1.other8 Np1 _ _ _ _ _ _ _ _).drew,(H2.out.2.2.2.2.other8 Nq1 _ _ _ _ _ _ _ _).drew⟩) ?_
   clear HK
   refine anyL_one (i:=3) (by kernel_rfl) rfl (fun K HK=>?_)
   go_wp2_with fail
   refine HK.out _ _ (fun _=>⟨((H2.out.2.2.2.1.other8 Np1 _ _ _ _ _ _ _ _).other8 Np2 _ _ _ _ _ _ _ _).drew,((H2.out.2.2.2.2.other8 Nq1 _ _ _ _ _ _ _ _).other8 Nq2 _ _ _ _ _ _ _ _).drew⟩) ?_
   clear HK
   refine anyL_one (i:=4) (by kernel_rfl) rfl (fun K HK=>?_)
   go_wp2_with fail
   refine HK.out _ _ (fun h=>(h rfl).elim) ?_
   clear HK
   refine anyL_done (by kernel_rfl) ?_
   go_wp2_with fail
   refine forgetW (fun U=>Up w U∧Box U (w.heap.size+1) #[.int .i64 (x0),.int .i64 (x1),.int .i64 (y0),.int .i64 (y1),.int .i64 (u0),.int .i64 (u1),.int .i64 (v0),.int .i64 (m)] 69∧Box U (w.heap.size+1+1) #[.int .i64 (x0),.int .i64 (x1),.int .i64 (y0),.int .i64 (y1),.int .i64 (u0),.int .i64 (u1),.int .i64 ((m+1)),.int .i64 (v1)] 69) ?_ ?_
   · exact ⟨((H2.out.1.set8 (show w.heap.size≤w.heap.size+1 by omega) _ _ _ _ _ _ _ _).set8 (show w.heap.size≤w.heap.size+1+1 by omega) _ _ _ _ _ _ _ _).drew,((H2.out.2.1.put8 (.int .i64 x0) (.int .i64 x1) (.int .i64 y0) (.int .i64 y1) (.int .i64 u0) (.int .i64 u1) (.int .i64 v0) (.int .i64 m)).other8 N12 _ _ _ _ _ _ _ _).drew,((H2.out.2.2.1.other8 N21 _ _ _ _ _ _ _ _).put8 (.int .i64 x0) (.int .i64 x1) (.int .i64 y0) (.int .i64 y1) (.int .i64 u0) (.int .i64 u1) (.int .i64 (m+1)) (.int .i64 v1)).drew⟩
   clear H2 hS0 a0 a1 a2 a3 a4 a5 a6 a7 la fza0 fza1 fza2 fza3 fza4 fza5 fza6 fza7 b0 b1 b2 b3 b4 b5 b6 b7 lb fzb0 fzb1 fzb2 fzb3 fzb4 fzb5 fzb6 fzb7
   rintro U ⟨hu,b1,b2⟩
   have e0:=b1.cell 0 rfl
   have f0:=b2.cell 0 rfl
   have e1:=b1.cell 1 rfl
   have f1:=b2.cell 1 rfl
   have e2:=b1.cell 2 rfl
   have f2:=b2.cell 2 rfl
   have e3:=b1.cell 3 rfl
   have f3:=b2.cell 3 rfl
   have e4:=b1.cell 4 rfl
   have f4:=b2.cell 4 rfl
   have e5:=b1.cell 5 rfl
   have f5:=b2.cell 5 rfl
   have e6:=b1.cell 6 rfl
   have f6:=b2.cell 6 rfl
   have e7:=b1.cell 7 rfl
   have f7:=b2.cell 7 rfl
   refine bodyPost_give hu rfl ⟨_,(by simp [results,Tryz.results124,go_sem,e0,e1,e2,e3,e4,e5,e6,e7,f0,f1,f2,f3,f4,f5,f6,f7];rfl),?_⟩
   rfl
theorem Own.one {α:Type} {T:Rw α} {e:TypeId} {base:Nat} {w:World} {g:Nat} {x:α} (hB:Box w g (T.f x).toArray e) (hg:base≤g):Own T e base w (.slice (some ⟨g,0,none⟩) 1 1) [x]:=by
 unfold Own
 have h1:T.flat [x]=T.f x:=by unfold Rw.flat;simp
 rw [h1]
 exact ⟨by simp [T.fk],.inr ⟨g,1,(T.f x).toArray,rfl,hg,hB,Nat.le_refl _,by unfold maxLen;decide,by simp [T.fk],by simp [← T.fk x]⟩⟩
theorem Own.cap {α:Type} {T:Rw α} {e:TypeId} {base:Nat} {w:World} {a:Option Addr} {n c:Nat} {l:List α} (h:Own T e base w (.slice a n c) l):n≤c∨l=[]:=by
 rcases h.2 with ⟨_,h0⟩ | ⟨g,cap,cur,hv,_,_,h1,_⟩
 · exact .inr (List.length_eq_zero_iff.1 h0)
 · simp at hv
   obtain ⟨_,h2,h3⟩:=hv
   exact .inl (by rw [h2,h3];exact h1)
section
variable {P:Program} {ops:Array Oper} {rest:List Oper} {o:Oper} {a:Act} {Q:Exit→Act→World→Prop}
theorem wpList_more {α:Type} {T:Rw α} {t e:TypeId} {bytes:Nat} (hE:ElemOk P T t e bytes) (hgd:o.guard=none) (s x:Operand) (ho:o.op=.call { callee:=.builtin .append,args:=#[s,x],argTypes:=#[t,t] })
 {w0 W:World} (hu:Up w0 W) {base:Nat} (hb0:w0.heap.size≤base) (hbW:base≤W.heap.size) {v:Value} {l:List α} (hs:a.eval s=v) (hown:Own T e base W v l) {K:Nat→Prop} {m:List α} {n c:Nat} {ta:Option Addr} (hx:a.eval x=.slice ta n c) (hL:Lst T K W (.slice ta n c) m) (hn:l.length+m.length≤100000) (hby:bytes≤1000)
 (h:∀ v' W',Up w0 W'→Own T e base W' v' (l++m)→W.grownBy W' v.ownBlock→wpList P ops Q rest (a.put o.dst v') W'):wpList P ops Q (o::rest) a W:=by
 obtain ⟨i,z,h1,h2,h3,h4,h5⟩:=hE.info
 obtain ⟨sa,sc,rfl⟩:=hown.form
 have hl:n=m.length:=by
  obtain ⟨a',c',e1,_⟩:=hL
  simp at e1
  exact e1.2.1
 subst hl
 by_cases h0:m=[]
 · subst h0
   have hsrc:Src P i.size t (.slice ta 0 c) 0 [] W:=by
    cases ta with
    | none=>exact Src.ofNil W hE.under c
    | some ad=>exact Src.ofSlice W hE.under ad 0 c [] (by simp) (fun j u hj=>by simp at hj) (fun _ h=>by cases h)
   have hcap:l.length≤sc:=by
    rcases hown.cap with h | h
    · exact h
    · subst h;simp
   have hr:=run_append_nothing (P:=P) W t t o.type e i hE.under h1 sa l.length sc hcap (.slice ta 0 c) hsrc
   refine wpList_plain hgd fun K' hK=>?_
   unfold Oper.wp execOp
   simp only [ho,resolve,invoke,builtin,Sem.run_bind,Sem.run_pure,Result.andThen_ok,List.map_toArray,List.map_cons,List.map_nil,hs,hx]
   simp only [List.length_nil] at *
   simp only [hr]
   exact hK _ _ (h _ W hu (by rw [List.append_nil];exact hown) (grown_refl _ _))
 · obtain ⟨a',c',e1,hm,h3'⟩:=hL
   obtain ⟨b,o',rfl,_⟩:=h3' h0
   simp at e1
   obtain ⟨rfl,rfl⟩:=e1
   have hL2:Lst T K W (.slice (some ⟨b,o',none⟩) m.length c) m:=⟨_,_,rfl,hm,h3'⟩
   have hpos:0<m.length:=List.length_pos_iff.2 h0
   refine wpList_append_lies _ hgd s x t ho base e i z T.k bytes hE.under h1 h2 h3 h4 h5 T.kp (.slice sa l.length sc) l.length (T.flat l) hs hown ⟨b,o',none⟩ m.length c (T.flat m) hx (T.flat_len m) hL2.news (T.flat_one m) hpos (by unfold maxLen;omega) ?_ hbW _ rfl ?_
   · have:(l.length+m.length)*bytes≤100000*1000:=Nat.mul_le_mul (by omega) hby
     omega
   · intro g cap w' hown' hgrow hat hlt
     refine h _ w' (.of_below (hu.below.grown hgrow hu.below.size (fun k e=>by have:=hown.lt k e;omega))) ?_ hgrow
     unfold Own
     rw [List.length_append,show T.flat (l++m)=T.flat l++T.flat m by unfold Rw.flat;simp]
     exact hown'
end
theorem Lst.take {α:Type} {T:Rw α} {K:Nat→Prop} {w:World} {a:Option Addr} {n c:Nat} {l:List α} (h:Lst T K w (.slice a n c) l) {j:Nat} (hj:j≤l.length) (c':Nat):Lst T K w (.slice a j c') (l.take j):=by
 obtain ⟨a',c0,h1,h2,h3⟩:=h
 simp at h1
 obtain ⟨rfl,rfl,rfl⟩:=h1
 refine ⟨a,c',by simp [Nat.min_eq_left hj],by simp;omega,fun h0=>?_⟩
 obtain ⟨b,o,e1,e2,e3,e4⟩:=h3 (by intro e;subst e;simp at h0)
 refine ⟨b,o,e1,e2,e3,fun i x hx=>e4 i x ?_⟩
 rw [List.getElem?_take] at hx
 split at hx
 · exact hx
 · cases hx
theorem Lst.drop {α:Type} {T:Rw α} {K:Nat→Prop} {w:World} {b o n c:Nat} {l:List α} (h:Lst T K w (.slice (some ⟨b,o,none⟩) n c) l) (j:Nat) (c':Nat):Lst T K w (.slice (some ⟨b,o+j*T.k,none⟩) (n - j) c') (l.drop j):=by
 obtain ⟨a',c0,h1,h2,h3⟩:=h
 simp at h1
 obtain ⟨rfl,rfl,rfl⟩:=h1
 refine ⟨some ⟨b,o+j*T.k,none⟩,c',by simp,by simp;omega,fun h0=>?_⟩
 obtain ⟨b',o',e1,e2,e3,e4⟩:=h3 (by intro e;subst e;simp at h0)
 simp at e1
 obtain ⟨rfl,rfl⟩:=e1
 refine ⟨b,o+j*T.k,rfl,e2,e3,fun i x hx=>?_⟩
 rw [List.getElem?_drop] at hx
 obtain ⟨vs,f1,f2,f3⟩:=e4 (j+i) x hx
 refine ⟨vs,f1,f2,fun q u hu=>?_⟩
 have:=f3 q u hu
 rw [Nat.add_mul] at this
 rw [← this]
 congr 2
 omega
structure CeS (w:World) (n:Nat) (v:Value) (l:List BoxD) (U:World):Prop where
 u:Up w U
 o:Own TBox 69 w.heap.size U v l
 n0:1≤l.length
 n1:l.length≤n
 ok:∀ b∈l,BOk b
theorem Own.form1 {α:Type} {T:Rw α} {e:TypeId} {base:Nat} {w:World} {v:Value} {l:List α} (h:Own T e base w v l) (h0:l≠[]):∃ g c,v=.slice (some ⟨g,0,none⟩) l.length c:=by
 rcases h.2 with ⟨_,h1⟩ | ⟨g,cap,cur,hv,_⟩
 · exact absurd (List.length_eq_zero_iff.1 h1) h0
 · exact ⟨g,cap,hv⟩
theorem Own.base {α:Type} {T:Rw α} {e:TypeId} {b b':Nat} {w:World} {v:Value} {l:List α} (h:Own T e b w v l) (hb:b'≤b):Own T e b' w v l:=by
 obtain ⟨h1,h2⟩:=h
 refine ⟨h1,?_⟩
 rcases h2 with h2 | ⟨g,cap,cur,hv,hg,h3⟩
 · exact .inl h2
 · exact .inr ⟨g,cap,cur,hv,Nat.le_trans hb hg,h3⟩
theorem Lst.nil0 {α:Type} (T:Rw α) (K:Nat→Prop) (w:World) (a:Option Addr) (c:Nat):Lst T K w (.slice a 0 c) []:=⟨a,c,rfl,by simp,fun h=>absurd rfl h⟩
theorem Lst.two {α:Type} {T:Rw α} {w:World} {B:Nat} {e:TypeId} {x y:α} (h:Box w B (T.f x++T.f y).toArray e):Lst T (fun _=>True) w (.slice (some ⟨B,0,none⟩) 2 2) [x,y]:=by
 refine ⟨some ⟨B,0,none⟩,2,rfl,by simp,fun _=>⟨B,0,rfl,trivial,h.lt,fun i z hz=>?_⟩⟩
 have hkp:=T.kp
 match i,hz with
 | 0,hz =>
  cases hz
  refine ⟨T.f x,rfl,T.fk x,fun j u hu=>?_⟩
  have hj:=(List.getElem?_eq_some_iff.1 hu).1
  have:=h.cell j (v:=u) (by rw [List.getElem?_toArray,List.getElem?_append_left hj];exact hu)
  simpa using this
 | 1,hz =>
  cases hz
  refine ⟨T.f y,rfl,T.fk y,fun j u hu=>?_⟩
  have:=h.cell (T.k+j) (v:=u) (by rw [List.getElem?_toArray,List.getElem?_append_right (by rw [T.fk];omega),T.fk,Nat.add_sub_cancel_left];exact hu)
  simpa using this
structure CfS (wr:World) (bx bt:Nat) (X Y:BoxD) (vo vr:Value) (l lr:List BoxD) (base:Nat) (U:World):Prop where
 u:Up wr U
 x:Box U bx (boxA X) 69
 y:Box U bt (boxA Y) 69
 o:Own TBox 69 base U vo l
 r:Own TBox 69 wr.heap.size U vr lr
theorem CfS.up {wr:World} {bx bt:Nat} {X Y:BoxD} {vo vr:Value} {l lr:List BoxD} {base:Nat} {U V:World} (h:CfS wr bx bt X Y vo vr l lr base U) (hu:Up U V):CfS wr bx bt X Y vo vr l lr base V:=⟨h.u.trans hu,h.x.up hu,h.y.up hu,h.o.up hu,h.r.up hu⟩
def lenV:Value→Nat
 | .slice _ n _=>n
 | _=>0
theorem CeS.next {w wr V W:World} {n k:Nat} {X Y:BoxD} {v:Value} {l lt lr:List BoxD} (hw:Up w wr) (hv:Up wr V) (hu:Up V W) (hk:k<l.length) (hn:l.length<n) (hok:∀ b∈l,BOk b) (hX:BOk X) (hY:BOk Y) (hlt:lt=l.take k) (hlr:lr=l.drop (k+1)) (ho:Own TBox 69 V.heap.size W v (lt++[X,Y]++lr)) :
 CeS w n v (lt++[X,Y]++lr) W∧lenV v=l.length+1:=by
 have hlen:(lt++[X,Y]++lr).length=l.length+1:=by
  rw [hlt,hlr]
  simp
  omega
 refine ⟨⟨(hw.trans hv).trans hu,ho.base (hw.trans hv).below.size,by omega,by omega,fun b hb=>?_⟩,?_⟩
 · rcases List.mem_append.1 hb with hb | hb
   · rcases List.mem_append.1 hb with hb | hb
     · rw [hlt] at hb;exact hok b (List.mem_of_mem_take hb)
     · simp at hb
       rcases hb with rfl | rfl
       · exact hX
       · exact hY
   · rw [hlr] at hb;exact hok b (List.mem_of_mem_drop hb)
 · obtain ⟨a,c,rfl⟩:=ho.form
   exact hlen
theorem CeS.up {w U V:World} {n:Nat} {v:Value} {l:List BoxD} (h:CeS w n v l U) (hu:Up U V):CeS w n v l V:=⟨h.u.trans hu,h.o.up hu,h.n0,h.n1,h.ok⟩
theorem qcells_any {b:BoxD} (hb:BOk b) {n:Nat} (hn0:1≤n) (hn1:n≤512) (w:World):Calls Tryz.prog 78 #[.agg (boxA b),.int .i64 n] w fun e W=>∃ (a:Option Addr) (m c:Nat) (l:List BoxD) (p:Ext),e=.returned (.tuple #[.slice a m c,.int .i64 0])∧Boxes (fun q=>w.heap.size≤q) W (.slice a m c) l∧(1≤l.length∧l.length≤n)∧(∀ x∈l,BOk x)∧W=ext w p:=by
 have HC:=hide (fun W=>qbox_any b W)
 rw [show boxE b=0 from (boxE_ok b).2 hb] at HC
 have HWI:=hide (fun (x:BoxD) (hx:BOk x) W=>qwidest_any hx.num W)
 have HSP:=hide (fun (x:BoxD) (hx:BOk x) W=>qsplit_any x hx.num W)
 have HOK:=hide hb
 have hd0:decide ((n:Int)<1)=false:=by simp;omega
 have hd1:decide ((512:Int)<n)=false:=by simp;omega
 have hd2:decide (n<1)=false:=by simp;omega
 have hd3:decide (512<n)=false:=by simp;omega
 clear hb
 obtain ⟨x0,x1,y0,y1,u0,u1,v0,v1⟩:=b
 unfold boxA at HC ⊢
 dsimp only at HC ⊢
 go_enter Tryz.func78,Tryz.ntmps78
 go_wp2_with fail
 go_at_call 122
 refine (HC.out _).mono ?_
 intro p1
 go_wp2_with fail
 obtain ⟨g0,hg0⟩:∃ g,g=w.heap.size+1+p1.os.size:=⟨_,rfl⟩
 rw [← hg0]
 refine forgetW (fun U=>CeS w n (.slice (some ⟨g0,0,none⟩) 1 1) [⟨x0,x1,y0,y1,u0,u1,v0,v1⟩] U) ⟨Up.go,Own.one (show Box _ g0 _ _ from by rw [hg0];exact Box.mk (by simp)) (by omega),by simp,by simp;omega,by simpa using HOK.out⟩ ?_
 clear hg0 HC HOK
 intro V0 h0
 have H0:=hide h0
 clear h0
 go_loopw [7] (fun s7 wr=>∃ l,Hid (CeS w n s7 l wr)) (fun s7 _=>n - lenV s7)
 case atStart=>exact ⟨_,H0⟩
 case round =>
  obtain ⟨l,HI⟩:=hrel
  clear H0
  obtain ⟨g,c,hv⟩:=HI.out.o.form1 (by intro e;have:=HI.out.n0;rw [e] at this;simp at this)
  subst hv
  have hl0:=HI.out.n0
  have hl1:=HI.out.n1
  by_cases hlt:l.length<n
  · have hlb:decide ((l.length:Int)<n)=true:=by simp;omega
    have hln:decide (l.length<n)=true:=by simp;omega
    go_wp2_with fail
    go_loopw [8,9,10] (fun s8 s9 s10 wr=>∃ (i k:Nat) (m:Int),i≤l.length∧k<l.length∧s10=.int .i64 i∧s8=.int .i64 k∧s9=.int .i64 m∧Hid (CeS w n (.slice (some ⟨g,0,none⟩) l.length c) l wr)) (fun _ _ s10 _=>l.length - (intOf s10).toNat)
    case atStart=>exact ⟨0,0,0,by omega,by omega,rfl,rfl,rfl,HI⟩
    case round =>
     obtain ⟨i,k,m,hi,hk,rfl,rfl,rfl,HJ⟩:=hrel
     clear HI
     by_cases hil:i<l.length
     · have hib:decide ((i:Int)<l.length)=true:=by simp;omega
       have hin:decide (i<l.length)=true:=by simp;omega
       obtain ⟨b',o',p,he,_,hbw,hp,c0,c1,c2,c3,c4,c5,c6,c7⟩:=(Boxes.at (boxes_of (HJ.out.o.lies (by omega)))).2.2 i hil
       cases he
       have hpk:=HJ.out.ok p (List.mem_of_getElem? hp)
       have HW:=hide (HWI.out p hpk)
       generalize widN p=W' at HW
       generalize widI p=I' at HW
       obtain ⟨px0,px1,py0,py1,pu0,pu1,pv0,pv1⟩:=p
       unfold boxA at HW
       dsimp only at HW c0 c1 c2 c3 c4 c5 c6 c7
       simp only [Nat.zero_add] at c0 c1 c2 c3 c4 c5 c6 c7
       clear hp hpk
       go_wp2_with fail
       go_at_call 123
       refine (HW.out _).mono ?_
       intro p2
       by_cases hm:m<W'
       · have hmb:decide (m<W')=true:=decide_eq_true hm
         go_wp2_with fail
         go_roundw
         case rel=>exact ⟨i+1,i,W',by omega,hil,by go_num,rfl,rfl,hide (HJ.out.up Up.go)⟩
         case measure=>simp [intOf];omega
       · have hmb:decide (m<W')=false:=decide_eq_false hm
         go_wp2_with fail
         go_roundw
         case rel=>exact ⟨i+1,k,m,by omega,hk,by go_num,rfl,rfl,hide (HJ.out.up Up.go)⟩
         case measure=>simp [intOf];omega
     · have hib:decide ((i:Int)<l.length)=false:=by simp;omega
       have hin:decide (i<l.length)=false:=by simp;omega
       have hkb:decide ((k:Int)<l.length)=true:=by simp;omega
       have hkn:decide (k<l.length)=true:=by simp;omega
       obtain ⟨b',o',p,he,_,hbw,hp,c0,c1,c2,c3,c4,c5,c6,c7⟩:=(Boxes.at (boxes_of (HJ.out.o.lies (by omega)))).2.2 k hk
       cases he
       have hpk:=HJ.out.ok p (List.mem_of_getElem? hp)
       have HS:=hide (HSP.out p hpk)
       have HSO:=hide (fun h=>(splitV_ok (b:=p) h).2)
       generalize splitV p=SV at HS HSO
       obtain ⟨⟨X,Y⟩,is⟩:=SV
       obtain ⟨px0,px1,py0,py1,pu0,pu1,pv0,pv1⟩:=p
       obtain ⟨X0,X1,X2,X3,X4,X5,X6,X7⟩:=X
       obtain ⟨Y0,Y1,Y2,Y3,Y4,Y5,Y6,Y7⟩:=Y
       unfold boxA at HS
       dsimp only at HS HSO c0 c1 c2 c3 c4 c5 c6 c7
       simp only [Nat.zero_add] at c0 c1 c2 c3 c4 c5 c6 c7
       clear hp hpk
       rcases is with _ | _
       · go_wp2_with fail
         go_at_call 124
         refine (HS.out _).mono ?_
         intro p2
         go_wp2_with fail
         refine forgetW (fun U=>CeS w n (.slice (some ⟨g,0,none⟩) l.length c) l U) (HJ.out.up Up.go) ?_
         intro U hU
         obtain ⟨pe,hpe⟩:=hU.u
         exact bodyPost_ret (v:=.tuple #[.slice (some ⟨g,0,none⟩) l.length c,.int .i64 0]) (by simp [results,Tryz.results78,go_sem]) rfl ⟨_,_,_,l,pe,rfl,boxes_of (hU.o.lies (by omega)),⟨hl0,hl1⟩,hU.ok,hpe⟩
       · have hXY:=HSO.out rfl
         have HXY:=hide hXY
         clear hXY HSO
         have hat1:k+1≤l.length:=hk
         have hat2:(k:Int)+1≤l.length:=by omega
         have hlc:l.length≤c:=by
          rcases HJ.out.o.cap with h | h
          · exact h
          · rw [h] at hk;simp at hk
         have hkc:k≤c:=by omega
         have hkl:k≤l.length:=by omega
         have hl5:l.length≤512:=by omega
         by_cases hck:c=k+1
         · subst hck
           go_wp2_with fail
           go_at_call 124
           refine (HS.out _).mono ?_
           intro p2
           go_wp2_with (at_builtin;with_reducible refine stopA rfl ?_)
           refine hide ?_
           obtain ⟨bx,hbx⟩:∃ b,b=wr.heap.size+p2.os.size:=⟨_,rfl⟩
           rw [← hbx]
           obtain ⟨bt,hbt⟩:∃ b,b=bx+1:=⟨_,rfl⟩
           rw [← hbt]
           obtain ⟨lr,hlr⟩:∃ lr,lr=l.drop (k+1):=⟨_,rfl⟩
           refine wpList_copy elem_box rfl (.tmp 64) (.tmp 68) rfl (w0:=wr) Up.go rfl (show Box _ (bt+1) #[] 69 from by rw [hbt,hbx];exact Box.mk (by simp)) (by omega) rfl (l:=lr) (K:=fun _=>True) (by rw [hlr,show l.drop (k+1)=[] from List.drop_eq_nil_of_le (by omega)];exact Lst.nil0 _ (fun _=>True) _ _ _) (by rw [hlr];simp;omega) (by decide) ?_
           intro gR cR W1 hu1 hR hk1
           have H1:=hide (show CfS wr bx bt ⟨X0,X1,X2,X3,X4,X5,X6,X7⟩ ⟨Y0,Y1,Y2,Y3,Y4,Y5,Y6,Y7⟩ (.slice (some ⟨g,0,none⟩) l.length (k+1)) (.slice (some ⟨gR,0,none⟩) lr.length cR) l lr w.heap.size W1 from ⟨hu1,hk1 _ _ _ (by omega) (by rw [hbx];exact Box.go),hk1 _ _ _ (by omega) (by rw [hbt,hbx];exact Box.alloc (Box.mk (by simp)) _),HJ.out.o.up hu1,hR⟩)
           have HLR:=hide hlr
           have HUJ:=hide HJ.out.u
           have HOKL:=hide HJ.out.ok
           have lbx:bx<W1.heap.size:=H1.out.x.lt
           have lbt:bt<W1.heap.size:=H1.out.y.lt
           clear hu1 hR hk1 HJ HS c0 c1 c2 c3 c4 c5 c6 c7 hbx hbt hlr
           go_wp2_with fail
           have hS0:=hide (show Box W1.drew bx #[.int .i64 (X0),.int .i64 (X1),.int .i64 (X2),.int .i64 (X3),.int .i64 (X4),.int .i64 (X5),.int .i64 (X6),.int .i64 (X7)] 69∧Box W1.drew bt #[.int .i64 (Y0),.int .i64 (Y1),.int .i64 (Y2),.int .i64 (Y3),.int .i64 (Y4),.int .i64 (Y5),.int .i64 (Y6),.int .i64 (Y7)] 69 from ⟨H1.out.x.drew,H1.out.y.drew⟩)
           refine wp_region_L (fun W'=>Box W' bx #[.int .i64 (X0),.int .i64 (X1),.int .i64 (X2),.int .i64 (X3),.int .i64 (X4),.int .i64 (X5),.int .i64 (X6),.int .i64 (X7)] 69∧Box W' bt #[.int .i64 (Y0),.int .i64 (Y1),.int .i64 (Y2),.int .i64 (Y3),.int .i64 (Y4),.int .i64 (Y5),.int .i64 (Y6),.int .i64 (Y7)] 69) 11 (by kernel_rfl) ?_
           refine anyL_take 1 (v:=(.slice (some ⟨g,0,none⟩) l.length (k+1))) rfl (by kernel_rfl) (fun _ _ _ h=>h) (.inl ⟨rfl,fun W' hW'=>by simp [go_sem]⟩) hS0.out ?_
           simp only [Act.put,List.setIfInBounds_toArray,List.set_cons_zero,List.set_cons_succ]
           refine anyL_take 2 (v:=(.int .i64 k)) rfl (by kernel_rfl) (fun _ _ _ h=>h) (.inl ⟨rfl,fun W' hW'=>by simp [go_sem]⟩) hS0.out ?_
           simp only [Act.put,List.setIfInBounds_toArray,List.set_cons_zero,List.set_cons_succ]
           refine anyL_take 3 (v:=(.slice (some ⟨g,0,none⟩) k (k+1))) rfl (by kernel_rfl) (fun _ _ _ h=>h) (.inl ⟨rfl,fun W' hW'=>by simp [go_sem,hkc,hkl] <;> (intro h;omega)⟩) hS0.out ?_
           simp only [Act.put,List.setIfInBounds_toArray,List.set_cons_zero,List.set_cons_succ]
           refine anyL_take 5 (v:=(.agg #[.int .i64 (X0),.int .i64 (X1),.int .i64 (X2),.int .i64 (X3),.int .i64 (X4),.int .i64 (X5),.int .i64 (X6),.int .i64 (X7)])) rfl (by kernel_rfl) (fun _ _ _ h=>h) (.inl ⟨rfl,fun W' hW'=>by have e0:=Box.cell hW'.1 0 rfl;have e1:=Box.cell hW'.1 1 rfl;have e2:=Box.cell hW'.1 2 rfl;have e3:=Box.cell hW'.1 3 rfl;have e4:=Box.cell hW'.1 4 rfl;have e5:=Box.cell hW'.1 5 rfl;have e6:=Box.cell hW'.1 6 rfl;have e7:=Box.cell hW'.1 7 rfl;simp [go_sem,e0,e1,e2,e3,e4,e5,e6,e7]⟩) hS0.out ?_
           simp only [Act.put,List.setIfInBounds_toArray,List.set_cons_zero,List.set_cons_succ]
           refine anyL_take 6 (v:=(.agg #[.int .i64 (Y0),.int .i64 (Y1),.int .i64 (Y2),.int .i64 (Y3),.int .i64 (Y4),.int .i64 (Y5),.int .i64 (Y6),.int .i64 (Y7)])) rfl (by kernel_rfl) (fun _ _ _ h=>h) (.inl ⟨rfl,fun W' hW'=>by have e0:=Box.cell hW'.2 0 rfl;have e1:=Box.cell hW'.2 1 rfl;have e2:=Box.cell hW'.2 2 rfl;have e3:=Box.cell hW'.2 3 rfl;have e4:=Box.cell hW'.2 4 rfl;have e5:=Box.cell hW'.2 5 rfl;have e6:=Box.cell hW'.2 6 rfl;have e7:=Box.cell hW'.2 7 rfl;simp [go_sem,e0,e1,e2,e3,e4,e5,e6,e7]⟩) hS0.out ?_
           simp only [Act.put,List.setIfInBounds_toArray,List.set_cons_zero,List.set_cons_succ]
           refine anyL_take 9 (v:=(.slice (some ⟨gR,0,none⟩) lr.length cR)) rfl (by kernel_rfl) (fun _ _ _ h=>h) (.inl ⟨rfl,fun W' hW'=>by simp [go_sem]⟩) hS0.out ?_
           simp only [Act.put,List.setIfInBounds_toArray,List.set_cons_zero,List.set_cons_succ]
           obtain ⟨lt,hlt'⟩:∃ lt,lt=l.take k:=⟨_,rfl⟩
           have HL5:=hide (show lt.length≤512 by rw [hlt'];simp;omega)
           have HLT:=hide hlt'
           clear hlt'
           refine forgetW (fun U=>CfS wr bx bt ⟨X0,X1,X2,X3,X4,X5,X6,X7⟩ ⟨Y0,Y1,Y2,Y3,Y4,Y5,Y6,Y7⟩ (.slice (some ⟨g,0,none⟩) l.length (k+1)) (.slice (some ⟨gR,0,none⟩) lr.length cR) l lr w.heap.size U) (H1.out.up (Up.refl _).drew) ?_
           clear hS0 H1 lbx lbt
           intro V hV
           have HV:=hide hV
           clear hV
           have HR5:=hide (show lr.length≤512 by rw [HLR.out];simp;omega)
           refine anyL_two (i:=0) (j:=7) (by kernel_rfl) rfl rfl (fun K HK=>?_) (fun K HK=>?_)
           · skip
             go_wp2_with fail
             refine HK.out _ _ (fun _=>⟨by (repeat (first|with_reducible apply Box.alloc|with_reducible apply Box.ext));exact HV.out.x,by (repeat (first|with_reducible apply Box.alloc|with_reducible apply Box.ext));exact HV.out.y⟩) ?_
             clear HK
             refine anyL_two (i:=4) (j:=7) (by kernel_rfl) rfl rfl (fun K HK=>?_) (fun K HK=>?_)
             · skip
               refine wpList_copy elem_box rfl (.tmp 70) (.tmp 73) rfl (w0:=V) Up.go rfl (show Box _ (V.heap.size) #[] 69 from Box.mk (by simp)) (by omega) rfl (l:=lt) (K:=fun _=>True) (by rw [HLT.out];exact ((((HV.out.o.lies (by omega)).mono (K':=fun _=>True) fun _ _ _=>trivial).take (by omega) _).up Up.go)) (Nat.le_trans HL5.out (by decide)) (by decide) ?_
               intro g4 c4 W4 hu4 ho4 hk4
               have H4:=hide (And.intro (HV.out.up hu4) (And.intro hu4 (And.intro ho4 trivial)))
               clear hu4 ho4 hk4
               go_wp2_with fail
               refine HK.out _ _ (fun _=>⟨by (repeat (first|with_reducible apply Box.alloc|with_reducible apply Box.ext));exact H4.out.1.x,by (repeat (first|with_reducible apply Box.alloc|with_reducible apply Box.ext));exact H4.out.1.y⟩) ?_
               clear HK
               refine anyL_one (i:=7) (by kernel_rfl) rfl (fun K HK=>?_)
               go_wp2_with fail
               refine HK.out _ _ (fun _=>⟨by (repeat (first|with_reducible apply Box.alloc|with_reducible apply Box.ext));exact H4.out.1.x,by (repeat (first|with_reducible apply Box.alloc|with_reducible apply Box.ext));exact H4.out.1.y⟩) ?_
               clear HK
               refine anyL_one (i:=8) (by kernel_rfl) rfl (fun K HK=>?_)
               refine wpList_more elem_box rfl (.tmp 74) (.tmp 77) rfl (w0:=V) (H4.out.2.1.trans Up.go) (Nat.le_refl _) (Nat.le_trans H4.out.2.1.below.size (by simp)) rfl (H4.out.2.2.1.up Up.go) rfl (Lst.two (T:=TBox) (x:=⟨X0,X1,X2,X3,X4,X5,X6,X7⟩) (y:=⟨Y0,Y1,Y2,Y3,Y4,Y5,Y6,Y7⟩) (show Box _ W4.heap.size #[.int .i64 X0,.int .i64 X1,.int .i64 X2,.int .i64 X3,.int .i64 X4,.int .i64 X5,.int .i64 X6,.int .i64 X7,.int .i64 Y0,.int .i64 Y1,.int .i64 Y2,.int .i64 Y3,.int .i64 Y4,.int .i64 Y5,.int .i64 Y6,.int .i64 Y7] 69 from Box.mk (by simp))) (by have:=HL5.out;simp;omega) (by decide) ?_
               intro v8 W8 hu8 ho8 _
               have H8:=hide (And.intro (HV.out.up hu8) (And.intro hu8 ho8))
               clear hu8 ho8 H4
               go_wp2_with fail
               refine HK.out _ _ (fun _=>⟨H8.out.1.x,H8.out.1.y⟩) ?_
               clear HK
               refine anyL_one (i:=10) (by kernel_rfl) rfl (fun K HK=>?_)
               refine wpList_more elem_box rfl (.tmp 78) (.tmp 79) rfl (w0:=V) H8.out.2.1 (Nat.le_refl _) H8.out.2.1.below.size rfl H8.out.2.2 rfl (H8.out.1.r.lies (Nat.le_trans HR5.out (by decide))) (by have:=HL5.out;have:=HR5.out;simp;omega) (by decide) ?_
               intro v10 W10 hu10 ho10 _
               have HN:=hide (CeS.next (k:=k) HUJ.out HV.out.u hu10 hk hlt HOKL.out HXY.out.1 HXY.out.2 HLT.out HLR.out ho10)
               have H10:=hide (HV.out.up hu10)
               clear hu10 ho10 H8
               go_wp2_with fail
               refine HK.out _ _ (fun _=>⟨H10.out.x,H10.out.y⟩) ?_
               clear HK
               refine anyL_one (i:=11) (by kernel_rfl) rfl (fun K HK=>?_)
               go_wp2_with fail
               refine HK.out _ _ (fun h=>(h rfl).elim) ?_
               clear HK
               refine anyL_done (by kernel_rfl) ?_
               go_wp2_with fail
               go_roundw
               case rel=>exact ⟨_,hide HN.out.1⟩
               case measure =>
                show n - lenV v10<n - l.length
                rw [show lenV v10=l.length+1 from HN.out.2]
                omega
             · skip
               go_wp2_with fail
               refine HK.out _ _ (fun _=>⟨by (repeat (first|with_reducible apply Box.alloc|with_reducible apply Box.ext));exact HV.out.x,by (repeat (first|with_reducible apply Box.alloc|with_reducible apply Box.ext));exact HV.out.y⟩) ?_
               clear HK
               refine anyL_one (i:=4) (by kernel_rfl) rfl (fun K HK=>?_)
               refine wpList_copy elem_box rfl (.tmp 70) (.tmp 73) rfl (w0:=V) Up.go rfl (show Box _ (V.heap.size) #[] 69 from Box.alloc (Box.mk (by simp)) _) (by omega) rfl (l:=lt) (K:=fun _=>True) (by rw [HLT.out];exact ((((HV.out.o.lies (by omega)).mono (K':=fun _=>True) fun _ _ _=>trivial).take (by omega) _).up Up.go)) (Nat.le_trans HL5.out (by decide)) (by decide) ?_
               intro g4 c4 W4 hu4 ho4 hk4
               have H4:=hide (And.intro (HV.out.up hu4) (And.intro hu4 (And.intro ho4 (show Box W4 (V.heap.size+1) #[.int .i64 X0,.int .i64 X1,.int .i64 X2,.int .i64 X3,.int .i64 X4,.int .i64 X5,.int .i64 X6,.int .i64 X7,.int .i64 Y0,.int .i64 Y1,.int .i64 Y2,.int .i64 Y3,.int .i64 Y4,.int .i64 Y5,.int .i64 Y6,.int .i64 Y7] 69 from hk4 _ _ _ (by omega) (Box.mk (by simp))))))
               clear hu4 ho4 hk4
               go_wp2_with fail
               refine HK.out _ _ (fun _=>⟨by (repeat (first|with_reducible apply Box.alloc|with_reducible apply Box.ext));exact H4.out.1.x,by (repeat (first|with_reducible apply Box.alloc|with_reducible apply Box.ext));exact H4.out.1.y⟩) ?_
               clear HK
               refine anyL_one (i:=8) (by kernel_rfl) rfl (fun K HK=>?_)
               refine wpList_more elem_box rfl (.tmp 74) (.tmp 77) rfl (w0:=V) (H4.out.2.1.trans Up.go) (Nat.le_refl _) (Nat.le_trans H4.out.2.1.below.size (by simp)) rfl (H4.out.2.2.1.up Up.go) rfl (Lst.two (T:=TBox) (x:=⟨X0,X1,X2,X3,X4,X5,X6,X7⟩) (y:=⟨Y0,Y1,Y2,Y3,Y4,Y5,Y6,Y7⟩) H4.out.2.2.2) (by have:=HL5.out;simp;omega) (by decide) ?_
               intro v8 W8 hu8 ho8 _
               have H8:=hide (And.intro (HV.out.up hu8) (And.intro hu8 ho8))
               clear hu8 ho8 H4
               go_wp2_with fail
               refine HK.out _ _ (fun _=>⟨H8.out.1.x,H8.out.1.y⟩) ?_
               clear HK
               refine anyL_one (i:=10) (by kernel_rfl) rfl (fun K HK=>?_)
               refine wpList_more elem_box rfl (.tmp 78) (.tmp 79) rfl (w0:=V) H8.out.2.1 (Nat.le_refl _) H8.out.2.1.below.size rfl H8.out.2.2 rfl (H8.out.1.r.lies (Nat.le_trans HR5.out (by decide))) (by have:=HL5.out;have:=HR5.out;simp;omega) (by decide) ?_
               intro v10 W10 hu10 ho10 _
               have HN:=hide (CeS.next (k:=k) HUJ.out HV.out.u hu10 hk hlt HOKL.out HXY.out.1 HXY.out.2 HLT.out HLR.out ho10)
               have H10:=hide (HV.out.up hu10)
               clear hu10 ho10 H8
               go_wp2_with fail
               refine HK.out _ _ (fun _=>⟨H10.out.x,H10.out.y⟩) ?_
               clear HK
               refine anyL_one (i:=11) (by kernel_rfl) rfl (fun K HK=>?_)
               go_wp2_with fail
               refine HK.out _ _ (fun h=>(h rfl).elim) ?_
               clear HK
               refine anyL_done (by kernel_rfl) ?_
               go_wp2_with fail
               go_roundw
               case rel=>exact ⟨_,hide HN.out.1⟩
               case measure =>
                show n - lenV v10<n - l.length
                rw [show lenV v10=l.length+1 from HN.out.2]
                omega
           · skip
             go_wp2_with fail
             refine HK.out _ _ (fun _=>⟨by (repeat (first|with_reducible apply Box.alloc|with_reducible apply Box.ext));exact HV.out.x,by (repeat (first|with_reducible apply Box.alloc|with_reducible apply Box.ext));exact HV.out.y⟩) ?_
             clear HK
             refine anyL_one (i:=0) (by kernel_rfl) rfl (fun K HK=>?_)
             go_wp2_with fail
             refine HK.out _ _ (fun _=>⟨by (repeat (first|with_reducible apply Box.alloc|with_reducible apply Box.ext));exact HV.out.x,by (repeat (first|with_reducible apply Box.alloc|with_reducible apply Box.ext));exact HV.out.y⟩) ?_
             clear HK
             refine anyL_one (i:=4) (by kernel_rfl) rfl (fun K HK=>?_)
             refine wpList_copy elem_box rfl (.tmp 70) (.tmp 73) rfl (w0:=V) Up.go rfl (show Box _ (V.heap.size+1) #[] 69 from Box.mk (by simp)) (by omega) rfl (l:=lt) (K:=fun _=>True) (by rw [HLT.out];exact ((((HV.out.o.lies (by omega)).mono (K':=fun _=>True) fun _ _ _=>trivial).take (by omega) _).up Up.go)) (Nat.le_trans HL5.out (by decide)) (by decide) ?_
             intro g4 c4 W4 hu4 ho4 hk4
             have H4:=hide (And.intro (HV.out.up hu4) (And.intro hu4 (And.intro ho4 (show Box W4 (V.heap.size) #[.int .i64 X0,.int .i64 X1,.int .i64 X2,.int .i64 X3,.int .i64 X4,.int .i64 X5,.int .i64 X6,.int .i64 X7,.int .i64 Y0,.int .i64 Y1,.int .i64 Y2,.int .i64 Y3,.int .i64 Y4,.int .i64 Y5,.int .i64 Y6,.int .i64 Y7] 69 from hk4 _ _ _ (by omega) (Box.alloc (Box.mk (by simp)) _)))))
             clear hu4 ho4 hk4
             go_wp2_with fail
             refine HK.out _ _ (fun _=>⟨by (repeat (first|with_reducible apply Box.alloc|with_reducible apply Box.ext));exact H4.out.1.x,by (repeat (first|with_reducible apply Box.alloc|with_reducible apply Box.ext));exact H4.out.1.y⟩) ?_
             clear HK
             refine anyL_one (i:=8) (by kernel_rfl) rfl (fun K HK=>?_)
             refine wpList_more elem_box rfl (.tmp 74) (.tmp 77) rfl (w0:=V) (H4.out.2.1.trans Up.go) (Nat.le_refl _) (Nat.le_trans H4.out.2.1.below.size (by simp)) rfl (H4.out.2.2.1.up Up.go) rfl (Lst.two (T:=TBox) (x:=⟨X0,X1,X2,X3,X4,X5,X6,X7⟩) (y:=⟨Y0,Y1,Y2,Y3,Y4,Y5,Y6,Y7⟩) H4.out.2.2.2) (by have:=HL5.out;simp;omega) (by decide) ?_
             intro v8 W8 hu8 ho8 _
             have H8:=hide (And.intro (HV.out.up hu8) (And.intro hu8 ho8))
             clear hu8 ho8 H4
             go_wp2_with fail
             refine HK.out _ _ (fun _=>⟨H8.out.1.x,H8.out.1.y⟩) ?_
             clear HK
             refine anyL_one (i:=10) (by kernel_rfl) rfl (fun K HK=>?_)
             refine wpList_more elem_box rfl (.tmp 78) (.tmp 79) rfl (w0:=V) H8.out.2.1 (Nat.le_refl _) H8.out.2.1.below.size rfl H8.out.2.2 rfl (H8.out.1.r.lies (Nat.le_trans HR5.out (by decide))) (by have:=HL5.out;have:=HR5.out;simp;omega) (by decide) ?_
             intro v10 W10 hu10 ho10 _
             have HN:=hide (CeS.next (k:=k) HUJ.out HV.out.u hu10 hk hlt HOKL.out HXY.out.1 HXY.out.2 HLT.out HLR.out ho10)
             have H10:=hide (HV.out.up hu10)
             clear hu10 ho10 H8
             go_wp2_with fail
             refine HK.out _ _ (fun _=>⟨H10.out.x,H10.out.y⟩) ?_
             clear HK
             refine anyL_one (i:=11) (by kernel_rfl) rfl (fun K HK=>?_)
             go_wp2_with fail
             refine HK.out _ _ (fun h=>(h rfl).elim) ?_
             clear HK
             refine anyL_done (by kernel_rfl) ?_
             go_wp2_with fail
             go_roundw
             case rel=>exact ⟨_,hide HN.out.1⟩
             case measure =>
              show n - lenV v10<n - l.length
              rw [show lenV v10=l.length+1 from HN.out.2]
              omega
         · go_wp2_with fail
           go_at_call 124
           refine (HS.out _).mono ?_
           intro p2
           go_wp2_with (at_builtin;with_reducible refine stopA rfl ?_)
           refine hide ?_
           obtain ⟨bx,hbx⟩:∃ b,b=wr.heap.size+p2.os.size:=⟨_,rfl⟩
           rw [← hbx]
           obtain ⟨bt,hbt⟩:∃ b,b=bx+1:=⟨_,rfl⟩
           rw [← hbt]
           obtain ⟨lr,hlr⟩:∃ lr,lr=l.drop (k+1):=⟨_,rfl⟩
           refine wpList_copy elem_box rfl (.tmp 64) (.tmp 68) rfl (w0:=wr) Up.go rfl (show Box _ (bt+1) #[] 69 from by rw [hbt,hbx];exact Box.mk (by simp)) (by omega) rfl (l:=lr) (K:=fun _=>True) (by have h9:=((HJ.out.o.lies (by omega)).mono (K':=fun _=>True) fun _ _ _=>trivial).drop (k+1) (c - (k+1));simp only [Nat.zero_add] at h9;rw [hlr];exact h9.up Up.go) (by rw [hlr];simp;omega) (by decide) ?_
           intro gR cR W1 hu1 hR hk1
           have H1:=hide (show CfS wr bx bt ⟨X0,X1,X2,X3,X4,X5,X6,X7⟩ ⟨Y0,Y1,Y2,Y3,Y4,Y5,Y6,Y7⟩ (.slice (some ⟨g,0,none⟩) l.length c) (.slice (some ⟨gR,0,none⟩) lr.length cR) l lr w.heap.size W1 from ⟨hu1,hk1 _ _ _ (by omega) (by rw [hbx];exact Box.go),hk1 _ _ _ (by omega) (by rw [hbt,hbx];exact Box.alloc (Box.mk (by simp)) _),HJ.out.o.up hu1,hR⟩)
           have HLR:=hide hlr
           have HUJ:=hide HJ.out.u
           have HOKL:=hide HJ.out.ok
           have lbx:bx<W1.heap.size:=H1.out.x.lt
           have lbt:bt<W1.heap.size:=H1.out.y.lt
           clear hu1 hR hk1 HJ HS c0 c1 c2 c3 c4 c5 c6 c7 hbx hbt hlr
           go_wp2_with fail
           have hS0:=hide (show Box W1.drew bx #[.int .i64 (X0),.int .i64 (X1),.int .i64 (X2),.int .i64 (X3),.int .i64 (X4),.int .i64 (X5),.int .i64 (X6),.int .i64 (X7)] 69∧Box W1.drew bt #[.int .i64 (Y0),.int .i64 (Y1),.int .i64 (Y2),.int .i64 (Y3),.int .i64 (Y4),.int .i64 (Y5),.int .i64 (Y6),.int .i64 (Y7)] 69 from ⟨H1.out.x.drew,H1.out.y.drew⟩)
           refine wp_region_L (fun W'=>Box W' bx #[.int .i64 (X0),.int .i64 (X1),.int .i64 (X2),.int .i64 (X3),.int .i64 (X4),.int .i64 (X5),.int .i64 (X6),.int .i64 (X7)] 69∧Box W' bt #[.int .i64 (Y0),.int .i64 (Y1),.int .i64 (Y2),.int .i64 (Y3),.int .i64 (Y4),.int .i64 (Y5),.int .i64 (Y6),.int .i64 (Y7)] 69) 11 (by kernel_rfl) ?_
           refine anyL_take 1 (v:=(.slice (some ⟨g,0,none⟩) l.length c)) rfl (by kernel_rfl) (fun _ _ _ h=>h) (.inl ⟨rfl,fun W' hW'=>by simp [go_sem]⟩) hS0.out ?_
           simp only [Act.put,List.setIfInBounds_toArray,List.set_cons_zero,List.set_cons_succ]
           refine anyL_take 2 (v:=(.int .i64 k)) rfl (by kernel_rfl) (fun _ _ _ h=>h) (.inl ⟨rfl,fun W' hW'=>by simp [go_sem]⟩) hS0.out ?_
           simp only [Act.put,List.setIfInBounds_toArray,List.set_cons_zero,List.set_cons_succ]
           refine anyL_take 3 (v:=(.slice (some ⟨g,0,none⟩) k c)) rfl (by kernel_rfl) (fun _ _ _ h=>h) (.inl ⟨rfl,fun W' hW'=>by simp [go_sem,hkc,hkl] <;> (intro h;omega)⟩) hS0.out ?_
           simp only [Act.put,List.setIfInBounds_toArray,List.set_cons_zero,List.set_cons_succ]
           refine anyL_take 5 (v:=(.agg #[.int .i64 (X0),.int .i64 (X1),.int .i64 (X2),.int .i64 (X3),.int .i64 (X4),.int .i64 (X5),.int .i64 (X6),.int .i64 (X7)])) rfl (by kernel_rfl) (fun _ _ _ h=>h) (.inl ⟨rfl,fun W' hW'=>by have e0:=Box.cell hW'.1 0 rfl;have e1:=Box.cell hW'.1 1 rfl;have e2:=Box.cell hW'.1 2 rfl;have e3:=Box.cell hW'.1 3 rfl;have e4:=Box.cell hW'.1 4 rfl;have e5:=Box.cell hW'.1 5 rfl;have e6:=Box.cell hW'.1 6 rfl;have e7:=Box.cell hW'.1 7 rfl;simp [go_sem,e0,e1,e2,e3,e4,e5,e6,e7]⟩) hS0.out ?_
           simp only [Act.put,List.setIfInBounds_toArray,List.set_cons_zero,List.set_cons_succ]
           refine anyL_take 6 (v:=(.agg #[.int .i64 (Y0),.int .i64 (Y1),.int .i64 (Y2),.int .i64 (Y3),.int .i64 (Y4),.int .i64 (Y5),.int .i64 (Y6),.int .i64 (Y7)])) rfl (by kernel_rfl) (fun _ _ _ h=>h) (.inl ⟨rfl,fun W' hW'=>by have e0:=Box.cell hW'.2 0 rfl;have e1:=Box.cell hW'.2 1 rfl;have e2:=Box.cell hW'.2 2 rfl;have e3:=Box.cell hW'.2 3 rfl;have e4:=Box.cell hW'.2 4 rfl;have e5:=Box.cell hW'.2 5 rfl;have e6:=Box.cell hW'.2 6 rfl;have e7:=Box.cell hW'.2 7 rfl;simp [go_sem,e0,e1,e2,e3,e4,e5,e6,e7]⟩) hS0.out ?_
           simp only [Act.put,List.setIfInBounds_toArray,List.set_cons_zero,List.set_cons_succ]
           refine anyL_take 9 (v:=(.slice (some ⟨gR,0,none⟩) lr.length cR)) rfl (by kernel_rfl) (fun _ _ _ h=>h) (.inl ⟨rfl,fun W' hW'=>by simp [go_sem]⟩) hS0.out ?_
           simp only [Act.put,List.setIfInBounds_toArray,List.set_cons_zero,List.set_cons_succ]
           obtain ⟨lt,hlt'⟩:∃ lt,lt=l.take k:=⟨_,rfl⟩
           have HL5:=hide (show lt.length≤512 by rw [hlt'];simp;omega)
           have HLT:=hide hlt'
           clear hlt'
           refine forgetW (fun U=>CfS wr bx bt ⟨X0,X1,X2,X3,X4,X5,X6,X7⟩ ⟨Y0,Y1,Y2,Y3,Y4,Y5,Y6,Y7⟩ (.slice (some ⟨g,0,none⟩) l.length c) (.slice (some ⟨gR,0,none⟩) lr.length cR) l lr w.heap.size U) (H1.out.up (Up.refl _).drew) ?_
           clear hS0 H1 lbx lbt
           intro V hV
           have HV:=hide hV
           clear hV
           have HR5:=hide (show lr.length≤512 by rw [HLR.out];simp;omega)
           refine anyL_two (i:=0) (j:=7) (by kernel_rfl) rfl rfl (fun K HK=>?_) (fun K HK=>?_)
           · skip
             go_wp2_with fail
             refine HK.out _ _ (fun _=>⟨by (repeat (first|with_reducible apply Box.alloc|with_reducible apply Box.ext));exact HV.out.x,by (repeat (first|with_reducible apply Box.alloc|with_reducible apply Box.ext));exact HV.out.y⟩) ?_
             clear HK
             refine anyL_two (i:=4) (j:=7) (by kernel_rfl) rfl rfl (fun K HK=>?_) (fun K HK=>?_)
             · skip
               refine wpList_copy elem_box rfl (.tmp 70) (.tmp 73) rfl (w0:=V) Up.go rfl (show Box _ (V.heap.size) #[] 69 from Box.mk (by simp)) (by omega) rfl (l:=lt) (K:=fun _=>True) (by rw [HLT.out];exact ((((HV.out.o.lies (by omega)).mono (K':=fun _=>True) fun _ _ _=>trivial).take (by omega) _).up Up.go)) (Nat.le_trans HL5.out (by decide)) (by decide) ?_
               intro g4 c4 W4 hu4 ho4 hk4
               have H4:=hide (And.intro (HV.out.up hu4) (And.intro hu4 (And.intro ho4 trivial)))
               clear hu4 ho4 hk4
               go_wp2_with fail
               refine HK.out _ _ (fun _=>⟨by (repeat (first|with_reducible apply Box.alloc|with_reducible apply Box.ext));exact H4.out.1.x,by (repeat (first|with_reducible apply Box.alloc|with_reducible apply Box.ext));exact H4.out.1.y⟩) ?_
               clear HK
               refine anyL_one (i:=7) (by kernel_rfl) rfl (fun K HK=>?_)
               go_wp2_with fail
               refine HK.out _ _ (fun _=>⟨by (repeat (first|with_reducible apply Box.alloc|with_reducible apply Box.ext));exact H4.out.1.x,by (repeat (first|with_reducible apply Box.alloc|with_reducible apply Box.ext));exact H4.out.1.y⟩) ?_
               clear HK
               refine anyL_one (i:=8) (by kernel_rfl) rfl (fun K HK=>?_)
               refine wpList_more elem_box rfl (.tmp 74) (.tmp 77) rfl (w0:=V) (H4.out.2.1.trans Up.go) (Nat.le_refl _) (Nat.le_trans H4.out.2.1.below.size (by simp)) rfl (H4.out.2.2.1.up Up.go) rfl (Lst.two (T:=TBox) (x:=⟨X0,X1,X2,X3,X4,X5,X6,X7⟩) (y:=⟨Y0,Y1,Y2,Y3,Y4,Y5,Y6,Y7⟩) (show Box _ W4.heap.size #[.int .i64 X0,.int .i64 X1,.int .i64 X2,.int .i64 X3,.int .i64 X4,.int .i64 X5,.int .i64 X6,.int .i64 X7,.int .i64 Y0,.int .i64 Y1,.int .i64 Y2,.int .i64 Y3,.int .i64 Y4,.int .i64 Y5,.int .i64 Y6,.int .i64 Y7] 69 from Box.mk (by simp))) (by have:=HL5.out;simp;omega) (by decide) ?_
               intro v8 W8 hu8 ho8 _
               have H8:=hide (And.intro (HV.out.up hu8) (And.intro hu8 ho8))
               clear hu8 ho8 H4
               go_wp2_with fail
               refine HK.out _ _ (fun _=>⟨H8.out.1.x,H8.out.1.y⟩) ?_
               clear HK
               refine anyL_one (i:=10) (by kernel_rfl) rfl (fun K HK=>?_)
               refine wpList_more elem_box rfl (.tmp 78) (.tmp 79) rfl (w0:=V) H8.out.2.1 (Nat.le_refl _) H8.out.2.1.below.size rfl H8.out.2.2 rfl (H8.out.1.r.lies (Nat.le_trans HR5.out (by decide))) (by have:=HL5.out;have:=HR5.out;simp;omega) (by decide) ?_
               intro v10 W10 hu10 ho10 _
               have HN:=hide (CeS.next (k:=k) HUJ.out HV.out.u hu10 hk hlt HOKL.out HXY.out.1 HXY.out.2 HLT.out HLR.out ho10)
               have H10:=hide (HV.out.up hu10)
               clear hu10 ho10 H8
               go_wp2_with fail
               refine HK.out _ _ (fun _=>⟨H10.out.x,H10.out.y⟩) ?_
               clear HK
               refine anyL_one (i:=11) (by kernel_rfl) rfl (fun K HK=>?_)
               go_wp2_with fail
               refine HK.out _ _ (fun h=>(h rfl).elim) ?_
               clear HK
               refine anyL_done (by kernel_rfl) ?_
               go_wp2_with fail
               go_roundw
               case rel=>exact ⟨_,hide HN.out.1⟩
               case measure =>
                show n - lenV v10<n - l.length
                rw [show lenV v10=l.length+1 from HN.out.2]
                omega
             · skip
               go_wp2_with fail
               refine HK.out _ _ (fun _=>⟨by (repeat (first|with_reducible apply Box.alloc|with_reducible apply Box.ext));exact HV.out.x,by (repeat (first|with_reducible apply Box.alloc|with_reducible apply Box.ext));exact HV.out.y⟩) ?_
               clear HK
               refine anyL_one (i:=4) (by kernel_rfl) rfl (fun K HK=>?_)
               refine wpList_copy elem_box rfl (.tmp 70) (.tmp 73) rfl (w0:=V) Up.go rfl (show Box _ (V.heap.size) #[] 69 from Box.alloc (Box.mk (by simp)) _) (by omega) rfl (l:=lt) (K:=fun _=>True) (by rw [HLT.out];exact ((((HV.out.o.lies (by omega)).mono (K':=fun _=>True) fun _ _ _=>trivial).take (by omega) _).up Up.go)) (Nat.le_trans HL5.out (by decide)) (by decide) ?_
               intro g4 c4 W4 hu4 ho4 hk4
               have H4:=hide (And.intro (HV.out.up hu4) (And.intro hu4 (And.intro ho4 (show Box W4 (V.heap.size+1) #[.int .i64 X0,.int .i64 X1,.int .i64 X2,.int .i64 X3,.int .i64 X4,.int .i64 X5,.int .i64 X6,.int .i64 X7,.int .i64 Y0,.int .i64 Y1,.int .i64 Y2,.int .i64 Y3,.int .i64 Y4,.int .i64 Y5,.int .i64 Y6,.int .i64 Y7] 69 from hk4 _ _ _ (by omega) (Box.mk (by simp))))))
               clear hu4 ho4 hk4
               go_wp2_with fail
               refine HK.out _ _ (fun _=>⟨by (repeat (first|with_reducible apply Box.alloc|with_reducible apply Box.ext));exact H4.out.1.x,by (repeat (first|with_reducible apply Box.alloc|with_reducible apply Box.ext));exact H4.out.1.y⟩) ?_
               clear HK
               refine anyL_one (i:=8) (by kernel_rfl) rfl (fun K HK=>?_)
               refine wpList_more elem_box rfl (.tmp 74) (.tmp 77) rfl (w0:=V) (H4.out.2.1.trans Up.go) (Nat.le_refl _) (Nat.le_trans H4.out.2.1.below.size (by simp)) rfl (H4.out.2.2.1.up Up.go) rfl (Lst.two (T:=TBox) (x:=⟨X0,X1,X2,X3,X4,X5,X6,X7⟩) (y:=⟨Y0,Y1,Y2,Y3,Y4,Y5,Y6,Y7⟩) H4.out.2.2.2) (by have:=HL5.out;simp;omega) (by decide) ?_
               intro v8 W8 hu8 ho8 _
               have H8:=hide (And.intro (HV.out.up hu8) (And.intro hu8 ho8))
               clear hu8 ho8 H4
               go_wp2_with fail
               refine HK.out _ _ (fun _=>⟨H8.out.1.x,H8.out.1.y⟩) ?_
               clear HK
               refine anyL_one (i:=10) (by kernel_rfl) rfl (fun K HK=>?_)
               refine wpList_more elem_box rfl (.tmp 78) (.tmp 79) rfl (w0:=V) H8.out.2.1 (Nat.le_refl _) H8.out.2.1.below.size rfl H8.out.2.2 rfl (H8.out.1.r.lies (Nat.le_trans HR5.out (by decide))) (by have:=HL5.out;have:=HR5.out;simp;omega) (by decide) ?_
               intro v10 W10 hu10 ho10 _
               have HN:=hide (CeS.next (k:=k) HUJ.out HV.out.u hu10 hk hlt HOKL.out HXY.out.1 HXY.out.2 HLT.out HLR.out ho10)
               have H10:=hide (HV.out.up hu10)
               clear hu10 ho10 H8
               go_wp2_with fail
               refine HK.out _ _ (fun _=>⟨H10.out.x,H10.out.y⟩) ?_
               clear HK
               refine anyL_one (i:=11) (by kernel_rfl) rfl (fun K HK=>?_)
               go_wp2_with fail
               refine HK.out _ _ (fun h=>(h rfl).elim) ?_
               clear HK
               refine anyL_done (by kernel_rfl) ?_
               go_wp2_with fail
               go_roundw
               case rel=>exact ⟨_,hide HN.out.1⟩
               case measure =>
                show n - lenV v10<n - l.length
                rw [show lenV v10=l.length+1 from HN.out.2]
                omega
           · skip
             go_wp2_with fail
             refine HK.out _ _ (fun _=>⟨by (repeat (first|with_reducible apply Box.alloc|with_reducible apply Box.ext));exact HV.out.x,by (repeat (first|with_reducible apply Box.alloc|with_reducible apply Box.ext));exact HV.out.y⟩) ?_
             clear HK
             refine anyL_one (i:=0) (by kernel_rfl) rfl (fun K HK=>?_)
             go_wp2_with fail
             refine HK.out _ _ (fun _=>⟨by (repeat (first|with_reducible apply Box.alloc|with_reducible apply Box.ext));exact HV.out.x,by (repeat (first|with_reducible apply Box.alloc|with_reducible apply Box.ext));exact HV.out.y⟩) ?_
             clear HK
             refine anyL_one (i:=4) (by kernel_rfl) rfl (fun K HK=>?_)
             refine wpList_copy elem_box rfl (.tmp 70) (.tmp 73) rfl (w0:=V) Up.go rfl (show Box _ (V.heap.size+1) #[] 69 from Box.mk (by simp)) (by omega) rfl (l:=lt) (K:=fun _=>True) (by rw [HLT.out];exact ((((HV.out.o.lies (by omega)).mono (K':=fun _=>True) fun _ _ _=>trivial).take (by omega) _).up Up.go)) (Nat.le_trans HL5.out (by decide)) (by decide) ?_
             intro g4 c4 W4 hu4 ho4 hk4
             have H4:=hide (And.intro (HV.out.up hu4) (And.intro hu4 (And.intro ho4 (show Box W4 (V.heap.size) #[.int .i64 X0,.int .i64 X1,.int .i64 X2,.int .i64 X3,.int .i64 X4,.int .i64 X5,.int .i64 X6,.int .i64 X7,.int .i64 Y0,.int .i64 Y1,.int .i64 Y2,.int .i64 Y3,.int .i64 Y4,.int .i64 Y5,.int .i64 Y6,.int .i64 Y7] 69 from hk4 _ _ _ (by omega) (Box.alloc (Box.mk (by simp)) _)))))
             clear hu4 ho4 hk4
             go_wp2_with fail
             refine HK.out _ _ (fun _=>⟨by (repeat (first|with_reducible apply Box.alloc|with_reducible apply Box.ext));exact H4.out.1.x,by (repeat (first|with_reducible apply Box.alloc|with_reducible apply Box.ext));exact H4.out.1.y⟩) ?_
             clear HK
             refine anyL_one (i:=8) (by kernel_rfl) rfl (fun K HK=>?_)
             refine wpList_more elem_box rfl (.tmp 74) (.tmp 77) rfl (w0:=V) (H4.out.2.1.trans Up.go) (Nat.le_refl _) (Nat.le_trans H4.out.2.1.below.size (by simp)) rfl (H4.out.2.2.1.up Up.go) rfl (Lst.two (T:=TBox) (x:=⟨X0,X1,X2,X3,X4,X5,X6,X7⟩) (y:=⟨Y0,Y1,Y2,Y3,Y4,Y5,Y6,Y7⟩) H4.out.2.2.2) (by have:=HL5.out;simp;omega) (by decide) ?_
             intro v8 W8 hu8 ho8 _
             have H8:=hide (And.intro (HV.out.up hu8) (And.intro hu8 ho8))
             clear hu8 ho8 H4
             go_wp2_with fail
             refine HK.out _ _ (fun _=>⟨H8.out.1.x,H8.out.1.y⟩) ?_
             clear HK
             refine anyL_one (i:=10) (by kernel_rfl) rfl (fun K HK=>?_)
             refine wpList_more elem_box rfl (.tmp 78) (.tmp 79) rfl (w0:=V) H8.out.2.1 (Nat.le_refl _) H8.out.2.1.below.size rfl H8.out.2.2 rfl (H8.out.1.r.lies (Nat.le_trans HR5.out (by decide))) (by have:=HL5.out;have:=HR5.out;simp;omega) (by decide) ?_
             intro v10 W10 hu10 ho10 _
             have HN:=hide (CeS.next (k:=k) HUJ.out HV.out.u hu10 hk hlt HOKL.out HXY.out.1 HXY.out.2 HLT.out HLR.out ho10)
             have H10:=hide (HV.out.up hu10)
             clear hu10 ho10 H8
             go_wp2_with fail
             refine HK.out _ _ (fun _=>⟨H10.out.x,H10.out.y⟩) ?_
             clear HK
             refine anyL_one (i:=11) (by kernel_rfl) rfl (fun K HK=>?_)
             go_wp2_with fail
             refine HK.out _ _ (fun h=>(h rfl).elim) ?_
             clear HK
             refine anyL_done (by kernel_rfl) ?_
             go_wp2_with fail
             go_roundw
             case rel=>exact ⟨_,hide HN.out.1⟩
             case measure =>
              show n - lenV v10<n - l.length
              rw [show lenV v10=l.length+1 from HN.out.2]
              omega
  · have hlb:decide ((l.length:Int)<n)=false:=by simp;omega
    have hln:decide (l.length<n)=false:=by simp;omega
    go_wp2_with fail
    obtain ⟨pe,hpe⟩:=HI.out.u
    exact bodyPost_ret (v:=.tuple #[.slice (some ⟨g,0,none⟩) l.length c,.int .i64 0]) (by simp [results,Tryz.results78,go_sem]) rfl ⟨_,_,_,l,pe,rfl,boxes_of (HI.out.o.lies (by omega)),⟨hl0,hl1⟩,HI.out.ok,hpe⟩
theorem kcells_any {b:BoxD} (hb:BOk b) {n:Nat} (hn0:1≤n) (hn1:n≤512) (w:World):Calls Tryz.prog 40 #[.agg (boxA b),.int .i64 n] w fun e W=>∃ (a:Option Addr) (m c:Nat) (l:List BoxD) (p:Ext),e=.returned (.slice a m c)∧Boxes (fun q=>w.heap.size≤q) W (.slice a m c) l∧(1≤l.length∧l.length≤n)∧(∀ x∈l,BOk x)∧W=ext w p:=by
 have HC:=hide (fun W=>qcells_any hb hn0 hn1 W)
 clear hb
 obtain ⟨x0,x1,y0,y1,u0,u1,v0,v1⟩:=b
 unfold boxA at HC ⊢
 dsimp only at HC ⊢
 go_enter Tryz.func40,Tryz.ntmps40
 go_wp2_with fail
 go_at_call 78
 refine (HC.out _).mono ?_
 rintro _ _ ⟨a,m,c,l,p,rfl,hl,hn,hk,rfl⟩
 have HL:=hide (And.intro hl (And.intro hn hk))
 clear hl hn hk HC
 go_wp2_with fail
 have hu:Up w (ext (w.alloc (.cells #[.int .i64 (x0),.int .i64 (x1),.int .i64 (y0),.int .i64 (y1),.int .i64 (u0),.int .i64 (u1),.int .i64 (v0),.int .i64 (v1)] 69)) p):=Up.go
 obtain ⟨q,hq⟩:=hu
 exact bodyPost_ret (v:=.slice a m c) (by simp [results,Tryz.results40,go_sem]) rfl ⟨a,m,c,l,q,rfl,HL.out.1.mono (fun b _ hb=>by simp at hb;omega),HL.out.2.1,HL.out.2.2,hq⟩
theorem offE_mk {s:SkyD} (hs:skyE s=0) {kind st cat tick dx dy err far wide cost:Int} {sure:Bool} (hk:kind=1∨kind=2) (ht:0≤tick∧tick≤1000000) (hst:(s.stations.any fun x=>x.1==st)=true) (hct:(s.catalogs.any fun x=>x.1==cat)=true)
 (hd:(-4096≤dx∧dx≤4096)∧(-4096≤dy∧dy≤4096)∧¬ (dx=0∧dy=0)) (he:0≤err∧err≤500000) (hf:1≤far∧far≤134217728) (hw:0≤wide∧wide≤1000000) (hc:0≤cost∧cost≤1000) :
 offE s ⟨kind,st,cat,tick,dx,dy,err,far,wide,cost,sure⟩=0:=by
 have wt:∀ {x a b:Int},a≤x→x≤b→withinB x a b=true:=fun h1 h2=>by unfold withinB;exact decide_eq_true ⟨h1,h2⟩
 unfold offE offE0
 rw [if_pos hs]
 dsimp only
 rw [if_neg (by omega),if_neg (by rw [wt (by omega) (by omega)];simp),if_neg (by rw [hst];simp),if_neg (by rw [wt he.1 he.2,wt hf.1 hf.2,wt hc.1 hc.2];simp)]
 by_cases h2:kind=2
 · rw [if_pos h2]
 · rw [if_neg h2,if_neg (by rw [hct];simp),if_neg]
   rw [wt hd.1.1 hd.1.2,wt hd.2.1.1 hd.2.1.2,wt hw.1 hw.2]
   have:(dx==0&&dy==0)=false:=by
    have:=hd.2.2
    rw [Bool.eq_false_iff]
    intro h
    simp at h
    exact this h
   rw [this]
   simp
theorem sightof_at {w:World} {sl:Value} (hN:Nums w sl) {B:Nat} (hB:w.heap.size≤B) {K:Nat→Prop} (hK:∀ b,K b→b≠B) {a sa ca:Option Addr} {n c sn sc cn cc:Nat} {s:SkyD} {tick px py:Int} (hs:skyE s=0) (hn1:0<sn) (hn2:0<cn) (k0:0≤tick∧tick≤1000000) (hp:(-32000000≤px∧px≤32000000) ∧ -32000000≤py∧py≤32000000)
 {t:Int} {W V:World} (hu:Up w W) (hb:Box W B #[sl,.int .i64 t] 98) (hL:SkyL K W a n c sa sn sc ca cn cc s) {m:Int} (hW:RingAt W B m V) (hm:m+8≤100000) :
 Calls Tryz.prog 79 #[.pointer (some ⟨B,0,none⟩),.agg #[.slice a n c,.int .i64 s.home,.slice sa sn sc,.slice ca cn cc],.int .i64 tick,.agg #[.int .i64 (px),.int .i64 (py)]] V fun e W'=>∃ v,e=.returned v∧RSight s tick v∧RingAt W B (m+8) W'∧V.grownBy W' (some B):=by
 obtain ⟨t1,h0,h1,hbW⟩:=hW.box hb
 refine (sightof_any hN hB hK hs hn1 hn2 k0 hp t1 V (hW.up hu hB) hbW (hL.keeps (hW.keepsK hK)) h0 (by omega)).mono ?_
 rintro e W' ⟨v,t',p',he,h2,h3,h4,rfl⟩
 exact ⟨v,he,h2,hW.called hb.lt h3 (by omega) p',grown_up (grown_set (grown_refl _ _) _ _) ((Up.refl _).ext _)⟩
structure OfS (W:World) (B:Nat) (sky:Array Value) (px py:Int) (Q:Nat) (n:Int) (v:Array Value) (U:World):Prop where
 r:RingAt W B n U
 q:Box U Q v 50
 s:Box U W.heap.size sky 29
 p:Box U (W.heap.size+1) #[.int .i64 (px),.int .i64 (py)] 48
 z:Box U (W.heap.size+1+1) #[.int .i64 0,.int .i64 0,.int .i64 0,.int .i64 0,.int .i64 0,.int .i64 0,.int .i64 0,.int .i64 0,.int .i64 0,.int .i64 0,.bool false] 50
section
variable {W:World} {B:Nat} {sky:Array Value} {px py:Int} {Q:Nat} {n:Int} {v:Array Value} {U:World}
theorem OfS.ext (h:OfS W B sky px py Q n v U) (p:Ext):OfS W B sky px py Q n v (Go.Proofs.YteafglginnonnaaGreat.ext U p):=⟨h.r.ext p,h.q.ext p,h.s.ext p,h.p.ext p,h.z.ext p⟩
theorem OfS.alloc (h:OfS W B sky px py Q n v U) (o:Obj):OfS W B sky px py Q n v (U.alloc o):=⟨h.r.alloc o,h.q.alloc o,h.s.alloc o,h.p.alloc o,h.z.alloc o⟩
theorem OfS.drew (h:OfS W B sky px py Q n v U):OfS W B sky px py Q n v U.drew:=⟨h.r.drew,h.q.drew,h.s.drew,h.p.drew,h.z.drew⟩
theorem OfS.grown {U':World} {m:Int} (h:OfS W B sky px py Q n v U) (hr:RingAt W B m U') (hg:U.grownBy U' (some B)) (hB:B<W.heap.size) (hQ:W.heap.size+1+1<Q):OfS W B sky px py Q m v U' :=
 ⟨hr,h.q.grown hg (by simp;omega),h.s.grown hg (by simp;omega),h.p.grown hg (by simp;omega),h.z.grown hg (by simp;omega)⟩
theorem OfS.set (h:OfS W B sky px py Q n v U) (hQ:W.heap.size+1+1<Q) (i:Nat) (x:Value):OfS W B sky px py Q n (v.setIfInBounds i x) (U.setCell ⟨Q,i,none⟩ x) :=
 ⟨h.r.set (by omega) i x,h.q.set i x,h.s.other (by omega) i x,h.p.other (by omega) i x,h.z.other (by omega) i x⟩
theorem OfS.put {v0 v1 v2 v3 v4 v5 v6 v7 v8 v9 v10:Value} (h:OfS W B sky px py Q n #[v0,v1,v2,v3,v4,v5,v6,v7,v8,v9,v10] U) (hQ:W.heap.size+1+1<Q) (a0 a1 a2 a3 a4 a5 a6 a7 a8 a9 a10:Value):OfS W B sky px py Q n #[a0,a1,a2,a3,a4,a5,a6,a7,a8,a9,a10]
 (((((((((((U.setCell ⟨Q,0,none⟩ a0).setCell ⟨Q,1,none⟩ a1).setCell ⟨Q,2,none⟩ a2).setCell ⟨Q,3,none⟩ a3).setCell ⟨Q,4,none⟩ a4).setCell ⟨Q,5,none⟩ a5).setCell ⟨Q,6,none⟩ a6).setCell ⟨Q,7,none⟩ a7).setCell ⟨Q,8,none⟩ a8).setCell ⟨Q,9,none⟩ a9).setCell ⟨Q,10,none⟩ a10):=by
 simpa using (((((((((((h.set hQ 0 a0).set hQ 1 a1).set hQ 2 a2).set hQ 3 a3).set hQ 4 a4).set hQ 5 a5).set hQ 6 a6).set hQ 7 a7).set hQ 8 a8).set hQ 9 a9).set hQ 10 a10)
theorem OfS.res (h:OfS W B sky px py Q n v U) (a0 a1 a2 a3 a4 a5 a6 a7 a8 a9 a10:Value) {m:Int} (hm:n≤m) {WF:World} (e:WF =
 (((((((((((U.setCell ⟨W.heap.size+1+1,0,none⟩ a0).setCell ⟨W.heap.size+1+1,1,none⟩ a1).setCell ⟨W.heap.size+1+1,2,none⟩ a2).setCell ⟨W.heap.size+1+1,3,none⟩ a3).setCell ⟨W.heap.size+1+1,4,none⟩ a4).setCell ⟨W.heap.size+1+1,5,none⟩ a5).setCell ⟨W.heap.size+1+1,6,none⟩ a6).setCell ⟨W.heap.size+1+1,7,none⟩ a7).setCell ⟨W.heap.size+1+1,8,none⟩ a8).setCell ⟨W.heap.size+1+1,9,none⟩ a9).setCell ⟨W.heap.size+1+1,10,none⟩ a10)) :
 RingAt W B m WF∧Box WF (W.heap.size+1+1) #[a0,a1,a2,a3,a4,a5,a6,a7,a8,a9,a10] 50:=by
 subst e
 refine ⟨(((((((((((h.r.set (by omega) 0 a0).set (by omega) 1 a1).set (by omega) 2 a2).set (by omega) 3 a3).set (by omega) 4 a4).set (by omega) 5 a5).set (by omega) 6 a6).set (by omega) 7 a7).set (by omega) 8 a8).set (by omega) 9 a9).set (by omega) 10 a10).mono hm,?_⟩
 simpa using (((((((((((h.z.set 0 a0).set 1 a1).set 2 a2).set 3 a3).set 4 a4).set 5 a5).set 6 a6).set 7 a7).set 8 a8).set 9 a9).set 10 a10)
theorem OfS.keeps {K:Nat→Prop} (h:OfS W B sky px py Q n v U) (hK:∀ b,K b→b≠B):Keeps K W U:=h.r.keepsK hK
end
theorem offerof_any {w:World} {sl:Value} (hN:Nums w sl) {B:Nat} (hB:w.heap.size≤B) {K:Nat→Prop} (hK:∀ b,K b→b≠B) {a sa ca:Option Addr} {n c sn sc cn cc:Nat} {s:SkyD} {tick px py:Int} (hs:skyE s=0) (hn1:0<sn) (hn2:0<cn) (k0:0≤tick∧tick≤1000000) (hp:(-32000000≤px∧px≤32000000) ∧ -32000000≤py∧py≤32000000)
 (t:Int) (W:World) (hu:Up w W) (hb:Box W B #[sl,.int .i64 t] 98) (hL:SkyL K W a n c sa sn sc ca cn cc s) (t0:0≤t) (t1:t+15≤100000) :
 Calls Tryz.prog 41 #[.pointer (some ⟨B,0,none⟩),.agg #[.slice a n c,.int .i64 s.home,.slice sa sn sc,.slice ca cn cc],.int .i64 tick,.agg #[.int .i64 (px),.int .i64 (py)]] W (RPost W B t 15 (ROffer s tick)):=by
 have KN:=hide (fun (m:Int) (m0:1≤m) (m1:m≤9223372036854775807) n V (hV:RingAt W B n V) (hn:n+1≤100000)=>(next_r hN hB m0 m1).at hu hb hB hV hn)
 have HR:=hide (RingAt.start (n:=t) hb t0 (by omega))
 have HW:=hide (fun (id:Int) V (hV:Keeps K W V)=>sWhere_any (hL.b.keeps hV) hL.h (hL.st.keeps hV) (hL.ca.keeps hV) id tick)
 have HSI:=hide (fun V m (hV:RingAt W B m V) (hm:m+8≤100000)=>sightof_at hN hB hK hs hn1 hn2 k0 hp hu hb hL hV hm)
 have N1:=hide (next_r hN hB (m:=2) (by omega) (by omega))
 have N2:=hide (next_r hN hB (m:=6) (by omega) (by omega))
 have N3:=hide (next_r hN hB (m:=3) (by omega) (by omega))
 have lB:=hb.lt
 have NS:=lB
 have HU:=hide (And.intro hu hb)
 have HKB:=hide hK
 have HS0:=hide hs
 generalize hhome:s.home=home at *
 clear hN hu hb hL hs hn1 hn2
 go_enter Tryz.func41,Tryz.ntmps41
 go_wp2_with fail
 go_at_call 79
 refine forgetC (fun V=>RingAt W B t V∧Box V W.heap.size #[.slice a n c,.int .i64 home,.slice sa sn sc,.slice ca cn cc] 29∧Box V (W.heap.size+1) #[.int .i64 (px),.int .i64 (py)] 48∧Box V (W.heap.size+1+1) #[.int .i64 0,.int .i64 0,.int .i64 0,.int .i64 0,.int .i64 0,.int .i64 0,.int .i64 0,.int .i64 0,.int .i64 0,.int .i64 0,.bool false] 50) ⟨((HR.out.alloc _).alloc _).alloc _,Box.go,Box.go,Box.go⟩ ?_
 rintro V ⟨hR,bs,bp,bz⟩
 have lsz:W.heap.size+1+1<V.heap.size:=bz.lt
 refine (HSI.out _ _ hR (by omega)).mono ?_
 rintro _ V1 ⟨_,rfl,⟨ki,st,ct,d1,d2,er,lo,hi,hki,hst,hct,hd,her,hlo,hhi,rfl⟩,hR1,hg1⟩
 have bs1:=bs.grown hg1 (by simp;omega)
 have bp1:=bp.grown hg1 (by simp;omega)
 have bz1:=bz.grown hg1 (by simp;omega)
 have lsz1:W.heap.size+1+1<V1.heap.size:=bz1.lt
 have HV1:=hide (And.intro hR1 (And.intro bs1 (And.intro bp1 bz1)))
 clear hR bs bp bz hR1 hg1 bs1 bp1 bz1 lsz HSI HR
 go_wp2_with fail
 obtain ⟨T,hT⟩:∃ T,V1.heap.size=T:=⟨_,rfl⟩
 rw [hT]
 refine forgetW (fun V=>RingAt W B (t+8) V∧Box V W.heap.size #[.slice a n c,.int .i64 home,.slice sa sn sc,.slice ca cn cc] 29∧Box V (W.heap.size+1) #[.int .i64 (px),.int .i64 (py)] 48∧Box V (W.heap.size+1+1) #[.int .i64 0,.int .i64 0,.int .i64 0,.int .i64 0,.int .i64 0,.int .i64 0,.int .i64 0,.int .i64 0,.int .i64 0,.int .i64 0,.bool false] 50∧Box V T #[.int .i64 (ki),.int .i64 (st),.int .i64 (ct),.int .i64 (tick),.int .i64 (d1),.int .i64 (d2),.int .i64 (er),.int .i64 (lo),.int .i64 (hi)] 155) ⟨HV1.out.1.alloc _,HV1.out.2.1.alloc _,HV1.out.2.2.1.alloc _,HV1.out.2.2.2.alloc _,by rw [← hT];exact Box.go⟩ ?_
 rintro V2 ⟨hR2,bs,bp,bz,bt⟩
 have lT:W.heap.size+1+1<T:=by omega
 clear hT lsz1 HV1
 obtain ⟨t2,t20,t21,hb2⟩:=hR2.box HU.out.2
 have hu2:=hR2.up HU.out.1 hB
 have lV2:B<V2.heap.size:=hb2.lt
 have HV:=hide (And.intro hu2 (And.intro hb2 (And.intro hR2 (And.intro bs (And.intro bp (And.intro bz bt))))))
 have hTB:T≠B:=by omega
 have c1:=bt.cell 1 rfl
 have c2:=bt.cell 2 rfl
 have c6:=bt.cell 6 rfl
 have lt:=bt.lt
 clear hR2 bs bp bz bt hb2 hu2
 refine wp_region_float (al:=[(17,10,#[.int .i64 0,.int .i64 0,.int .i64 0,.int .i64 0,.int .i64 0,.int .i64 0,.int .i64 0,.int .i64 0,.int .i64 0,.int .i64 0,.bool false],50)]) (mv:=fun k=>k==1 || k==12 || k==14) [18] [0,3,4,5,6,7,8,9,10,11,13,1,2,12,14,15,16] (by kernel_rfl) (by kernel_rfl) (makes1 ⟨_,rfl,rfl,fun _=>rfl,fun _ _=>by simp [go_sem]⟩) (cls_ring _ B (t2+0)) (ringAt_drew (sl:=sl) (t:=t2) (T:=98) HV.out.2.1 t20 (by omega)) (Nat.le_refl _) ?_
 simp only [withOps,List.filterMap_cons,List.filterMap_nil,List.getElem?_toArray,List.getElem?_cons_zero,List.getElem?_cons_succ,Option.map_some]
 (repeat (first | (apply walkF_pure (base:=ringBase _ _) rfl rfl rfl (by kernel_rfl);· (rintro ⟨tx,px⟩ K hK;unfold ringBase;dsimp only;go_big_quiet_op;first | exact hK | (apply Exists.intro;refine ⟨fun _=>?_,?_⟩;(· (fail));exact hK))) | (apply walkF_skip rfl;simp only [Act.put,List.setIfInBounds_toArray,List.set_cons_zero,List.set_cons_succ])))
 refine walkF_call _ _ (ring_call N1.out HV.out.1 HV.out.2.1 hB (by omega) (by omega)) (fun _ _=>cls_ring _ _ _) (by kernel_rfl) (by kernel_rfl) (fun _=>by simp [go_sem]) ?_
 rintro _ ⟨k,k00,k01,rfl⟩
 simp only [Act.put,List.setIfInBounds_toArray,List.set_cons_zero,List.set_cons_succ]
 (repeat (first | (apply walkF_pure (base:=ringBase _ _) rfl rfl rfl (by kernel_rfl);· (rintro ⟨tx,px⟩ K hK;unfold ringBase;dsimp only;go_big_quiet_op;first | exact hK | (apply Exists.intro;refine ⟨fun _=>?_,?_⟩;(· (fail));exact hK))) | (apply walkF_skip rfl;simp only [Act.put,List.setIfInBounds_toArray,List.set_cons_zero,List.set_cons_succ])))
 refine walkF_call _ _ (ring_call N2.out HV.out.1 HV.out.2.1 hB (by omega) (by omega)) (fun _ _=>cls_ring _ _ _) (by kernel_rfl) (by kernel_rfl) (fun _=>by simp [go_sem]) ?_
 rintro _ ⟨co,co0,co1,rfl⟩
 simp only [Act.put,List.setIfInBounds_toArray,List.set_cons_zero,List.set_cons_succ]
 (repeat (first | (apply walkF_pure (base:=ringBase _ _) rfl rfl rfl (by kernel_rfl);· (rintro ⟨tx,px⟩ K hK;unfold ringBase;dsimp only;go_big_quiet_op;first | exact hK | (apply Exists.intro;refine ⟨fun _=>?_,?_⟩;(· (fail));exact hK))) | (apply walkF_skip rfl;simp only [Act.put,List.setIfInBounds_toArray,List.set_cons_zero,List.set_cons_succ])))
 refine walkF_call _ _ (ring_call N3.out HV.out.1 HV.out.2.1 hB (by omega) (by omega)) (fun _ _=>cls_ring _ _ _) (by kernel_rfl) (by kernel_rfl) (fun _=>by simp [go_sem]) ?_
 rintro _ ⟨zz,zz0,zz1,rfl⟩
 simp only [Act.put,List.setIfInBounds_toArray,List.set_cons_zero,List.set_cons_succ]
 (repeat (first | (apply walkF_pure (base:=ringBase _ _) rfl rfl rfl (by kernel_rfl);· (rintro ⟨tx,px⟩ K hK;unfold ringBase;dsimp only;go_big_quiet_op;first | exact hK | (apply Exists.intro;refine ⟨fun _=>?_,?_⟩;(· (fail));exact hK))) | (apply walkF_skip rfl;simp only [Act.put,List.setIfInBounds_toArray,List.set_cons_zero,List.set_cons_succ])))
 refine walkF_nil (end1 (fun Q U hq hU bq=>?_))
 simp only [Act.put,List.setIfInBounds_toArray,List.set_cons_zero,List.set_cons_succ]
 (try simp only [List.filterMap_cons,List.filterMap_nil,List.getElem?_toArray,List.getElem?_cons_zero,List.getElem?_cons_succ])
 have hU3:RingAt V2 B (t2+3) U:=by simpa [Int.add_assoc] using hU
 have HB:=hide (show OfS W B #[.slice a n c,.int .i64 home,.slice sa sn sc,.slice ca cn cc] px py Q (t+8+3) #[.int .i64 0,.int .i64 0,.int .i64 0,.int .i64 0,.int .i64 0,.int .i64 0,.int .i64 0,.int .i64 0,.int .i64 0,.int .i64 0,.bool false] U from ⟨(HV.out.2.2.1.trans hU3 lB).mono (by omega),bq,hU3.other HV.out.2.2.2.1 (by omega),hU3.other HV.out.2.2.2.2.1 (by omega),hU3.other HV.out.2.2.2.2.2.1 (by omega)⟩)
 have ct1:=(hU3.other HV.out.2.2.2.2.2.2 hTB).cell 1 rfl
 have lct:=(hU3.other HV.out.2.2.2.2.2.2 hTB).lt
 have NQ:W.heap.size+1+1<Q:=by omega
 have nTQ:T≠Q:=by omega
 obtain ⟨wo1,wo2,hwo⟩:=(where_ok (t:=tick) HS0.out (by unfold withinB;simp;omega) hst).choose_spec.choose_spec.2.2.2.2.2
 have HW1:=hide (fun V hV=>HW.out st V hV)
 obtain ⟨ox,hox⟩:∃ x,(whereV s st tick).1=x:=⟨_,rfl⟩
 obtain ⟨oy,hoy⟩:∃ x,(whereV s st tick).2.1=x:=⟨_,rfl⟩
 obtain ⟨oz,hoz⟩:∃ x,(whereV s st tick).2.2=x:=⟨_,rfl⟩
 rw [hox] at wo1 HW1
 rw [hoy] at wo2 hwo HW1
 rw [hoz] at HW1
 have HF:=hide (And.intro hst (And.intro hct (show 0≤er / 4∧er / 4≤500000 by omega)))
 clear hU hU3 bq c1 c2 c6 lt N1 N2 N3 HW HV hox hoy hoz hst hct her hd hlo hhi hki
 obtain ⟨q0,q1,q2,q3,q4,q5,q6,q7,q8,q9,q10⟩:=HB.out.q.c11
 have lq:=HB.out.q.lt
 obtain ⟨fq0,fq1,fq2,fq3,fq4,fq5,fq6,fq7,fq8,fq9,fq10⟩:=HB.out.q.f11
 obtain ⟨s0,s1,s2,s3⟩:=HB.out.s.c4
 have ls:=HB.out.s.lt
 go_wp2_with fail
 go_at_call 80
 refine forgetC (OfS W B #[.slice a n c,.int .i64 home,.slice sa sn sc,.slice ca cn cc] px py Q  (t+8+3) #[.int .i64 (1+k),.int .i64 st,.int .i64 ct,.int .i64 tick,.int .i64 0,.int .i64 0,.int .i64 (er / 4),.int .i64 0,.int .i64 0,.int .i64 co,.bool (zz==0)]) (by (repeat (first|with_reducible apply OfS.ext|with_reducible apply OfS.alloc|with_reducible apply OfS.drew));exact HB.out.put NQ _ _ _ _ _ _ _ _ _ _ _) ?_
 intro U1 hU1
 have H1:=hide hU1
 clear q0 q1 q2 q3 q4 q5 q6 q7 q8 q9 q10 lq fq0 fq1 fq2 fq3 fq4 fq5 fq6 fq7 fq8 fq9 fq10 s0 s1 s2 s3 ls
 clear hU1 ct1 lct nTQ
 refine (HW1.out _ (H1.out.keeps HKB.out)).mono ?_
 intro e1
 obtain ⟨p0,p1⟩:=H1.out.p.c2
 have lp:=H1.out.p.lt
 go_wp2_with fail
 ((first | with_reducible refine wp_region_ext2 (by kernel_rfl) (by kernel_rfl) ?_ | refine wp_region_ext (by kernel_rfl) (by kernel_rfl) ?_);(repeat (go_big_quiet_step (fail)));refine wpQuiet_nil ?_;intro _ hw';obtain ⟨_,hw''⟩:=hw';subst hw'')
 go_wp2_with fail
 go_at_call 34
 refine forgetC (OfS W B #[.slice a n c,.int .i64 home,.slice sa sn sc,.slice ca cn cc] px py Q  (t+8+3) #[.int .i64 (1+k),.int .i64 st,.int .i64 ct,.int .i64 tick,.int .i64 0,.int .i64 0,.int .i64 (er / 4),.int .i64 0,.int .i64 0,.int .i64 co,.bool (zz==0)]) (by (repeat (first|with_reducible apply OfS.ext|with_reducible apply OfS.alloc|with_reducible apply OfS.drew));exact H1.out) ?_
 intro U2 hU2
 have H2:=hide hU2
 clear p0 p1 lp
 clear hU2
 refine (KN.out 400 (by omega) (by omega) (t+8+3) _ H2.out.r (by omega)).mono ?_
 rintro _ U3 ⟨_,rfl,⟨f,f0,f1,rfl⟩,hRU3,hgU3⟩
 have H3:=hide (H2.out.grown hRU3 hgU3 NS NQ)
 clear hRU3 hgU3
 obtain ⟨q0,q1,q2,q3,q4,q5,q6,q7,q8,q9,q10⟩:=H3.out.q.c11
 have lq:=H3.out.q.lt
 obtain ⟨fq0,fq1,fq2,fq3,fq4,fq5,fq6,fq7,fq8,fq9,fq10⟩:=H3.out.q.f11
 go_wp2_with fail
 go_at_call 34
 obtain ⟨FA,hFA⟩:∃ FA,(max 1 (max (px - ox) (-(px - ox)))+max 1 (max (py - oy) (-(py - oy)))+f)=FA:=⟨_,rfl⟩
 rw [hFA]
 have FA0:1≤FA∧FA≤133300000:=by omega
 clear hFA
 refine forgetC (OfS W B #[.slice a n c,.int .i64 home,.slice sa sn sc,.slice ca cn cc] px py Q  (t+8+3+1) #[.int .i64 (1+k),.int .i64 st,.int .i64 ct,.int .i64 tick,.int .i64 0,.int .i64 0,.int .i64 (er / 4),.int .i64 FA,.int .i64 0,.int .i64 co,.bool (zz==0)]) (by (repeat (first|with_reducible apply OfS.ext|with_reducible apply OfS.alloc|with_reducible apply OfS.drew));exact (H3.out.set NQ 7 (.int .i64 FA))) ?_
 intro U4 hU4
 have H4:=hide hU4
 clear q0 q1 q2 q3 q4 q5 q6 q7 q8 q9 q10 lq fq0 fq1 fq2 fq3 fq4 fq5 fq6 fq7 fq8 fq9 fq10
 clear hU4
 refine (KN.out 6 (by omega) (by omega) (t+8+3+1) _ H4.out.r (by omega)).mono ?_
 rintro _ U5 ⟨_,rfl,⟨h6,h60,h61,rfl⟩,hRU5,hgU5⟩
 have H5:=hide (H4.out.grown hRU5 hgU5 NS NQ)
 clear hRU5 hgU5
 by_cases h60:h6=0
 · subst h60
   obtain ⟨q0,q1,q2,q3,q4,q5,q6,q7,q8,q9,q10⟩:=H5.out.q.c11
   have lq:=H5.out.q.lt
   obtain ⟨fq0,fq1,fq2,fq3,fq4,fq5,fq6,fq7,fq8,fq9,fq10⟩:=H5.out.q.f11
   have FH:1≤1+FA / 2∧1+FA / 2≤133300000:=by omega
   go_wp2_with fail
   go_loopw [13,14] (fun s13 s14 wr=>∃ dx dy:Int,s13=.int .i64 dx∧s14=.int .i64 dy∧((-70000000≤dx∧dx≤70000000) ∧ -70000000≤dy∧dy≤70000000)∧Hid (OfS W B #[.slice a n c,.int .i64 home,.slice sa sn sc,.slice ca cn cc] px py Q  (t+8+3+1+1) #[.int .i64 (1+k),.int .i64 st,.int .i64 ct,.int .i64 tick,.int .i64 0,.int .i64 0,.int .i64 (er / 4),.int .i64 (1+FA / 2),.int .i64 0,.int .i64 co,.bool (zz==0)] wr)) (fun s13 s14 _=>(intOf s13).natAbs+(intOf s14).natAbs)
   case atStart=>exact ⟨_,_,rfl,rfl,by omega,hide (H5.out.set NQ 7 (.int .i64 (1+FA / 2)))⟩
   case round =>
    obtain ⟨dx,dy,rfl,rfl,hb,HI⟩:=hrel
    clear q0 q1 q2 q3 q4 q5 q6 q7 q8 q9 q10 lq fq0 fq1 fq2 fq3 fq4 fq5 fq6 fq7 fq8 fq9 fq10
    by_cases hh:halfOut dx dy
    · have hm:=half_less hh
      have g1:=half_bd hb.1 (by omega)
      have g2:=half_bd hb.2 (by omega)
      have hh':4096<dx∨(¬ 4096<dx∧4096 < -dx)∨(¬ 4096<dx∧¬ 4096 < -dx∧4096<dy)∨(¬ 4096<dx∧¬ 4096 < -dx∧¬ 4096<dy∧4096 < -dy):=by unfold halfOut at hh;omega
      clear hh
      rcases hh' with h | ⟨h,h'⟩ | ⟨h,h',h''⟩ | ⟨h,h',h'',h3⟩
      all_goals
       go_wp2_with fail
       go_roundw
       case rel=>exact ⟨_,_,rfl,rfl,by omega,HI⟩
       case measure=>exact hm
    · have c1:¬ 4096<dx:=by unfold halfOut at hh;omega
      have c2:¬ 4096 < -dx:=by unfold halfOut at hh;omega
      have c3:¬ 4096<dy:=by unfold halfOut at hh;omega
      have c4:¬ 4096 < -dy:=by unfold halfOut at hh;omega
      clear hh
      have hz:(dx=0∧dy=0)∨¬ dx=0∨(dx=0∧¬ dy=0):=by omega
      rcases hz with ⟨rfl,rfl⟩ | hz | ⟨rfl,hz⟩
      · skip
        go_wp2_with fail
        go_at_call 34
        refine forgetC (OfS W B #[.slice a n c,.int .i64 home,.slice sa sn sc,.slice ca cn cc] px py Q  (t+8+3+1+1) #[.int .i64 (1+k),.int .i64 st,.int .i64 ct,.int .i64 tick,.int .i64 0,.int .i64 0,.int .i64 (er / 4),.int .i64 (1+FA / 2),.int .i64 0,.int .i64 co,.bool (zz==0)]) (by (repeat (first|with_reducible apply OfS.ext|with_reducible apply OfS.alloc|with_reducible apply OfS.drew));exact HI.out) ?_
        intro U6 hU6
        have H6:=hide hU6
        clear hU6
        refine (KN.out 300000 (by omega) (by omega) (t+8+3+1+1) _ H6.out.r (by omega)).mono ?_
        rintro _ U7 ⟨_,rfl,⟨wi,wi0,wi1,rfl⟩,hRU7,hgU7⟩
        have H7:=hide (H6.out.grown hRU7 hgU7 NS NQ)
        clear hRU7 hgU7
        by_cases hk2:k=1
        · subst hk2
          obtain ⟨q0,q1,q2,q3,q4,q5,q6,q7,q8,q9,q10⟩:=H7.out.q.c11
          have lq:=H7.out.q.lt
          obtain ⟨fq0,fq1,fq2,fq3,fq4,fq5,fq6,fq7,fq8,fq9,fq10⟩:=H7.out.q.f11
          go_wp2_with fail
          go_at_call 34
          refine forgetC (OfS W B #[.slice a n c,.int .i64 home,.slice sa sn sc,.slice ca cn cc] px py Q  (t+8+3+1+1+1) #[.int .i64 2,.int .i64 st,.int .i64 ct,.int .i64 tick,.int .i64 1,.int .i64 0,.int .i64 (er / 4),.int .i64 (1+FA / 2),.int .i64 wi,.int .i64 co,.bool (zz==0)]) (by (repeat (first|with_reducible apply OfS.ext|with_reducible apply OfS.alloc|with_reducible apply OfS.drew));exact (((H7.out.set NQ 4 (.int .i64 1)).set NQ 5 (.int .i64 0)).set NQ 8 (.int .i64 wi))) ?_
          intro U8 hU8
          have H8:=hide hU8
          clear q0 q1 q2 q3 q4 q5 q6 q7 q8 q9 q10 lq fq0 fq1 fq2 fq3 fq4 fq5 fq6 fq7 fq8 fq9 fq10
          clear hU8
          refine (KN.out 60 (by omega) (by omega) (t+8+3+1+1+1) _ H8.out.r (by omega)).mono ?_
          rintro _ U9 ⟨_,rfl,⟨e2,e20,e21,rfl⟩,hRU9,hgU9⟩
          have H9:=hide (H8.out.grown hRU9 hgU9 NS NQ)
          clear hRU9 hgU9
          obtain ⟨q0,q1,q2,q3,q4,q5,q6,q7,q8,q9,q10⟩:=H9.out.q.c11
          have lq:=H9.out.q.lt
          obtain ⟨fq0,fq1,fq2,fq3,fq4,fq5,fq6,fq7,fq8,fq9,fq10⟩:=H9.out.q.f11
          obtain ⟨z0,z1,z2,z3,z4,z5,z6,z7,z8,z9,z10⟩:=H9.out.z.c11
          obtain ⟨fz0,fz1,fz2,fz3,fz4,fz5,fz6,fz7,fz8,fz9,fz10⟩:=H9.out.z.f11
          have lz:=H9.out.z.lt
          go_wp2_with fail
          refine forgetW (fun WF=>RingAt W B (t+15) WF∧Box WF (W.heap.size+1+1) #[.int .i64 2,.int .i64 st,.int .i64 ct,.int .i64 tick,.int .i64 1,.int .i64 0,.int .i64 e2,.int .i64 (1+FA / 2),.int .i64 wi,.int .i64 co,.bool (zz==0)] 50) (OfS.res (H9.out.set NQ 6 (.int .i64 e2)) _ _ _ _ _ _ _ _ _ _ _ (by omega) rfl) ?_
          clear q0 q1 q2 q3 q4 q5 q6 q7 q8 q9 q10 lq fq0 fq1 fq2 fq3 fq4 fq5 fq6 fq7 fq8 fq9 fq10 z0 z1 z2 z3 z4 z5 z6 z7 z8 z9 z10 fz0 fz1 fz2 fz3 fz4 fz5 fz6 fz7 fz8 fz9 fz10 lz
          rintro WF ⟨hRF,hbF⟩
          obtain ⟨z0,z1,z2,z3,z4,z5,z6,z7,z8,z9,z10⟩:=hbF.c11
          exact bodyPost_ret (v:=.agg #[.int .i64 2,.int .i64 st,.int .i64 ct,.int .i64 tick,.int .i64 1,.int .i64 0,.int .i64 e2,.int .i64 (1+FA / 2),.int .i64 wi,.int .i64 co,.bool (zz==0)]) (by simp [results,Tryz.results41,go_sem,z0,z1,z2,z3,z4,z5,z6,z7,z8,z9,z10]) rfl (ring_at_out hRF (by omega) ⟨⟨_,_,_,_,_,_,_,_,_,_,_⟩,offE_mk HS0.out (by omega) k0 HF.out.1 HF.out.2.1 ⟨⟨by omega,by omega⟩,⟨by omega,by omega⟩,by omega⟩ ⟨by omega,by omega⟩ ⟨FH.1,by omega⟩ ⟨by omega,by omega⟩ ⟨by omega,by omega⟩,rfl,FH.2,rfl⟩)
        · have hk3:¬ 1+k=2:=by omega
          obtain ⟨q0,q1,q2,q3,q4,q5,q6,q7,q8,q9,q10⟩:=H7.out.q.c11
          have lq:=H7.out.q.lt
          obtain ⟨fq0,fq1,fq2,fq3,fq4,fq5,fq6,fq7,fq8,fq9,fq10⟩:=H7.out.q.f11
          obtain ⟨z0,z1,z2,z3,z4,z5,z6,z7,z8,z9,z10⟩:=H7.out.z.c11
          obtain ⟨fz0,fz1,fz2,fz3,fz4,fz5,fz6,fz7,fz8,fz9,fz10⟩:=H7.out.z.f11
          have lz:=H7.out.z.lt
          go_wp2_with fail
          refine forgetW (fun WF=>RingAt W B (t+15) WF∧Box WF (W.heap.size+1+1) #[.int .i64 (1+k),.int .i64 st,.int .i64 ct,.int .i64 tick,.int .i64 1,.int .i64 0,.int .i64 (er / 4),.int .i64 (1+FA / 2),.int .i64 wi,.int .i64 co,.bool (zz==0)] 50) (OfS.res (((H7.out.set NQ 4 (.int .i64 1)).set NQ 5 (.int .i64 0)).set NQ 8 (.int .i64 wi)) _ _ _ _ _ _ _ _ _ _ _ (by omega) rfl) ?_
          clear q0 q1 q2 q3 q4 q5 q6 q7 q8 q9 q10 lq fq0 fq1 fq2 fq3 fq4 fq5 fq6 fq7 fq8 fq9 fq10 z0 z1 z2 z3 z4 z5 z6 z7 z8 z9 z10 fz0 fz1 fz2 fz3 fz4 fz5 fz6 fz7 fz8 fz9 fz10 lz
          rintro WF ⟨hRF,hbF⟩
          obtain ⟨z0,z1,z2,z3,z4,z5,z6,z7,z8,z9,z10⟩:=hbF.c11
          exact bodyPost_ret (v:=.agg #[.int .i64 (1+k),.int .i64 st,.int .i64 ct,.int .i64 tick,.int .i64 1,.int .i64 0,.int .i64 (er / 4),.int .i64 (1+FA / 2),.int .i64 wi,.int .i64 co,.bool (zz==0)]) (by simp [results,Tryz.results41,go_sem,z0,z1,z2,z3,z4,z5,z6,z7,z8,z9,z10]) rfl (ring_at_out hRF (by omega) ⟨⟨_,_,_,_,_,_,_,_,_,_,_⟩,offE_mk HS0.out (by omega) k0 HF.out.1 HF.out.2.1 ⟨⟨by omega,by omega⟩,⟨by omega,by omega⟩,by omega⟩ HF.out.2.2 ⟨FH.1,by omega⟩ ⟨by omega,by omega⟩ ⟨by omega,by omega⟩,rfl,FH.2,rfl⟩)
      · skip
        go_wp2_with fail
        go_at_call 34
        refine forgetC (OfS W B #[.slice a n c,.int .i64 home,.slice sa sn sc,.slice ca cn cc] px py Q  (t+8+3+1+1) #[.int .i64 (1+k),.int .i64 st,.int .i64 ct,.int .i64 tick,.int .i64 0,.int .i64 0,.int .i64 (er / 4),.int .i64 (1+FA / 2),.int .i64 0,.int .i64 co,.bool (zz==0)]) (by (repeat (first|with_reducible apply OfS.ext|with_reducible apply OfS.alloc|with_reducible apply OfS.drew));exact HI.out) ?_
        intro U6 hU6
        have H6:=hide hU6
        clear hU6
        refine (KN.out 300000 (by omega) (by omega) (t+8+3+1+1) _ H6.out.r (by omega)).mono ?_
        rintro _ U7 ⟨_,rfl,⟨wi,wi0,wi1,rfl⟩,hRU7,hgU7⟩
        have H7:=hide (H6.out.grown hRU7 hgU7 NS NQ)
        clear hRU7 hgU7
        by_cases hk2:k=1
        · subst hk2
          obtain ⟨q0,q1,q2,q3,q4,q5,q6,q7,q8,q9,q10⟩:=H7.out.q.c11
          have lq:=H7.out.q.lt
          obtain ⟨fq0,fq1,fq2,fq3,fq4,fq5,fq6,fq7,fq8,fq9,fq10⟩:=H7.out.q.f11
          go_wp2_with fail
          go_at_call 34
          refine forgetC (OfS W B #[.slice a n c,.int .i64 home,.slice sa sn sc,.slice ca cn cc] px py Q  (t+8+3+1+1+1) #[.int .i64 2,.int .i64 st,.int .i64 ct,.int .i64 tick,.int .i64 dx,.int .i64 dy,.int .i64 (er / 4),.int .i64 (1+FA / 2),.int .i64 wi,.int .i64 co,.bool (zz==0)]) (by (repeat (first|with_reducible apply OfS.ext|with_reducible apply OfS.alloc|with_reducible apply OfS.drew));exact (((H7.out.set NQ 4 (.int .i64 dx)).set NQ 5 (.int .i64 dy)).set NQ 8 (.int .i64 wi))) ?_
          intro U8 hU8
          have H8:=hide hU8
          clear q0 q1 q2 q3 q4 q5 q6 q7 q8 q9 q10 lq fq0 fq1 fq2 fq3 fq4 fq5 fq6 fq7 fq8 fq9 fq10
          clear hU8
          refine (KN.out 60 (by omega) (by omega) (t+8+3+1+1+1) _ H8.out.r (by omega)).mono ?_
          rintro _ U9 ⟨_,rfl,⟨e2,e20,e21,rfl⟩,hRU9,hgU9⟩
          have H9:=hide (H8.out.grown hRU9 hgU9 NS NQ)
          clear hRU9 hgU9
          obtain ⟨q0,q1,q2,q3,q4,q5,q6,q7,q8,q9,q10⟩:=H9.out.q.c11
          have lq:=H9.out.q.lt
          obtain ⟨fq0,fq1,fq2,fq3,fq4,fq5,fq6,fq7,fq8,fq9,fq10⟩:=H9.out.q.f11
          obtain ⟨z0,z1,z2,z3,z4,z5,z6,z7,z8,z9,z10⟩:=H9.out.z.c11
          obtain ⟨fz0,fz1,fz2,fz3,fz4,fz5,fz6,fz7,fz8,fz9,fz10⟩:=H9.out.z.f11
          have lz:=H9.out.z.lt
          go_wp2_with fail
          refine forgetW (fun WF=>RingAt W B (t+15) WF∧Box WF (W.heap.size+1+1) #[.int .i64 2,.int .i64 st,.int .i64 ct,.int .i64 tick,.int .i64 dx,.int .i64 dy,.int .i64 e2,.int .i64 (1+FA / 2),.int .i64 wi,.int .i64 co,.bool (zz==0)] 50) (OfS.res (H9.out.set NQ 6 (.int .i64 e2)) _ _ _ _ _ _ _ _ _ _ _ (by omega) rfl) ?_
          clear q0 q1 q2 q3 q4 q5 q6 q7 q8 q9 q10 lq fq0 fq1 fq2 fq3 fq4 fq5 fq6 fq7 fq8 fq9 fq10 z0 z1 z2 z3 z4 z5 z6 z7 z8 z9 z10 fz0 fz1 fz2 fz3 fz4 fz5 fz6 fz7 fz8 fz9 fz10 lz
          rintro WF ⟨hRF,hbF⟩
          obtain ⟨z0,z1,z2,z3,z4,z5,z6,z7,z8,z9,z10⟩:=hbF.c11
          exact bodyPost_ret (v:=.agg #[.int .i64 2,.int .i64 st,.int .i64 ct,.int .i64 tick,.int .i64 dx,.int .i64 dy,.int .i64 e2,.int .i64 (1+FA / 2),.int .i64 wi,.int .i64 co,.bool (zz==0)]) (by simp [results,Tryz.results41,go_sem,z0,z1,z2,z3,z4,z5,z6,z7,z8,z9,z10]) rfl (ring_at_out hRF (by omega) ⟨⟨_,_,_,_,_,_,_,_,_,_,_⟩,offE_mk HS0.out (by omega) k0 HF.out.1 HF.out.2.1 ⟨⟨by omega,by omega⟩,⟨by omega,by omega⟩,by omega⟩ ⟨by omega,by omega⟩ ⟨FH.1,by omega⟩ ⟨by omega,by omega⟩ ⟨by omega,by omega⟩,rfl,FH.2,rfl⟩)
        · have hk3:¬ 1+k=2:=by omega
          obtain ⟨q0,q1,q2,q3,q4,q5,q6,q7,q8,q9,q10⟩:=H7.out.q.c11
          have lq:=H7.out.q.lt
          obtain ⟨fq0,fq1,fq2,fq3,fq4,fq5,fq6,fq7,fq8,fq9,fq10⟩:=H7.out.q.f11
          obtain ⟨z0,z1,z2,z3,z4,z5,z6,z7,z8,z9,z10⟩:=H7.out.z.c11
          obtain ⟨fz0,fz1,fz2,fz3,fz4,fz5,fz6,fz7,fz8,fz9,fz10⟩:=H7.out.z.f11
          have lz:=H7.out.z.lt
          go_wp2_with fail
          refine forgetW (fun WF=>RingAt W B (t+15) WF∧Box WF (W.heap.size+1+1) #[.int .i64 (1+k),.int .i64 st,.int .i64 ct,.int .i64 tick,.int .i64 dx,.int .i64 dy,.int .i64 (er / 4),.int .i64 (1+FA / 2),.int .i64 wi,.int .i64 co,.bool (zz==0)] 50) (OfS.res (((H7.out.set NQ 4 (.int .i64 dx)).set NQ 5 (.int .i64 dy)).set NQ 8 (.int .i64 wi)) _ _ _ _ _ _ _ _ _ _ _ (by omega) rfl) ?_
          clear q0 q1 q2 q3 q4 q5 q6 q7 q8 q9 q10 lq fq0 fq1 fq2 fq3 fq4 fq5 fq6 fq7 fq8 fq9 fq10 z0 z1 z2 z3 z4 z5 z6 z7 z8 z9 z10 fz0 fz1 fz2 fz3 fz4 fz5 fz6 fz7 fz8 fz9 fz10 lz
          rintro WF ⟨hRF,hbF⟩
          obtain ⟨z0,z1,z2,z3,z4,z5,z6,z7,z8,z9,z10⟩:=hbF.c11
          exact bodyPost_ret (v:=.agg #[.int .i64 (1+k),.int .i64 st,.int .i64 ct,.int .i64 tick,.int .i64 dx,.int .i64 dy,.int .i64 (er / 4),.int .i64 (1+FA / 2),.int .i64 wi,.int .i64 co,.bool (zz==0)]) (by simp [results,Tryz.results41,go_sem,z0,z1,z2,z3,z4,z5,z6,z7,z8,z9,z10]) rfl (ring_at_out hRF (by omega) ⟨⟨_,_,_,_,_,_,_,_,_,_,_⟩,offE_mk HS0.out (by omega) k0 HF.out.1 HF.out.2.1 ⟨⟨by omega,by omega⟩,⟨by omega,by omega⟩,by omega⟩ HF.out.2.2 ⟨FH.1,by omega⟩ ⟨by omega,by omega⟩ ⟨by omega,by omega⟩,rfl,FH.2,rfl⟩)
      · skip
        go_wp2_with fail
        go_at_call 34
        refine forgetC (OfS W B #[.slice a n c,.int .i64 home,.slice sa sn sc,.slice ca cn cc] px py Q  (t+8+3+1+1) #[.int .i64 (1+k),.int .i64 st,.int .i64 ct,.int .i64 tick,.int .i64 0,.int .i64 0,.int .i64 (er / 4),.int .i64 (1+FA / 2),.int .i64 0,.int .i64 co,.bool (zz==0)]) (by (repeat (first|with_reducible apply OfS.ext|with_reducible apply OfS.alloc|with_reducible apply OfS.drew));exact HI.out) ?_
        intro U6 hU6
        have H6:=hide hU6
        clear hU6
        refine (KN.out 300000 (by omega) (by omega) (t+8+3+1+1) _ H6.out.r (by omega)).mono ?_
        rintro _ U7 ⟨_,rfl,⟨wi,wi0,wi1,rfl⟩,hRU7,hgU7⟩
        have H7:=hide (H6.out.grown hRU7 hgU7 NS NQ)
        clear hRU7 hgU7
        by_cases hk2:k=1
        · subst hk2
          obtain ⟨q0,q1,q2,q3,q4,q5,q6,q7,q8,q9,q10⟩:=H7.out.q.c11
          have lq:=H7.out.q.lt
          obtain ⟨fq0,fq1,fq2,fq3,fq4,fq5,fq6,fq7,fq8,fq9,fq10⟩:=H7.out.q.f11
          go_wp2_with fail
          go_at_call 34
          refine forgetC (OfS W B #[.slice a n c,.int .i64 home,.slice sa sn sc,.slice ca cn cc] px py Q  (t+8+3+1+1+1) #[.int .i64 2,.int .i64 st,.int .i64 ct,.int .i64 tick,.int .i64 0,.int .i64 dy,.int .i64 (er / 4),.int .i64 (1+FA / 2),.int .i64 wi,.int .i64 co,.bool (zz==0)]) (by (repeat (first|with_reducible apply OfS.ext|with_reducible apply OfS.alloc|with_reducible apply OfS.drew));exact (((H7.out.set NQ 4 (.int .i64 0)).set NQ 5 (.int .i64 dy)).set NQ 8 (.int .i64 wi))) ?_
          intro U8 hU8
          have H8:=hide hU8
          clear q0 q1 q2 q3 q4 q5 q6 q7 q8 q9 q10 lq fq0 fq1 fq2 fq3 fq4 fq5 fq6 fq7 fq8 fq9 fq10
          clear hU8
          refine (KN.out 60 (by omega) (by omega) (t+8+3+1+1+1) _ H8.out.r (by omega)).mono ?_
          rintro _ U9 ⟨_,rfl,⟨e2,e20,e21,rfl⟩,hRU9,hgU9⟩
          have H9:=hide (H8.out.grown hRU9 hgU9 NS NQ)
          clear hRU9 hgU9
          obtain ⟨q0,q1,q2,q3,q4,q5,q6,q7,q8,q9,q10⟩:=H9.out.q.c11
          have lq:=H9.out.q.lt
          obtain ⟨fq0,fq1,fq2,fq3,fq4,fq5,fq6,fq7,fq8,fq9,fq10⟩:=H9.out.q.f11
          obtain ⟨z0,z1,z2,z3,z4,z5,z6,z7,z8,z9,z10⟩:=H9.out.z.c11
          obtain ⟨fz0,fz1,fz2,fz3,fz4,fz5,fz6,fz7,fz8,fz9,fz10⟩:=H9.out.z.f11
          have lz:=H9.out.z.lt
          go_wp2_with fail
          refine forgetW (fun WF=>RingAt W B (t+15) WF∧Box WF (W.heap.size+1+1) #[.int .i64 2,.int .i64 st,.int .i64 ct,.int .i64 tick,.int .i64 0,.int .i64 dy,.int .i64 e2,.int .i64 (1+FA / 2),.int .i64 wi,.int .i64 co,.bool (zz==0)] 50) (OfS.res (H9.out.set NQ 6 (.int .i64 e2)) _ _ _ _ _ _ _ _ _ _ _ (by omega) rfl) ?_
          clear q0 q1 q2 q3 q4 q5 q6 q7 q8 q9 q10 lq fq0 fq1 fq2 fq3 fq4 fq5 fq6 fq7 fq8 fq9 fq10 z0 z1 z2 z3 z4 z5 z6 z7 z8 z9 z10 fz0 fz1 fz2 fz3 fz4 fz5 fz6 fz7 fz8 fz9 fz10 lz
          rintro WF ⟨hRF,hbF⟩
          obtain ⟨z0,z1,z2,z3,z4,z5,z6,z7,z8,z9,z10⟩:=hbF.c11
          exact bodyPost_ret (v:=.agg #[.int .i64 2,.int .i64 st,.int .i64 ct,.int .i64 tick,.int .i64 0,.int .i64 dy,.int .i64 e2,.int .i64 (1+FA / 2),.int .i64 wi,.int .i64 co,.bool (zz==0)]) (by simp [results,Tryz.results41,go_sem,z0,z1,z2,z3,z4,z5,z6,z7,z8,z9,z10]) rfl (ring_at_out hRF (by omega) ⟨⟨_,_,_,_,_,_,_,_,_,_,_⟩,offE_mk HS0.out (by omega) k0 HF.out.1 HF.out.2.1 ⟨⟨by omega,by omega⟩,⟨by omega,by omega⟩,by omega⟩ ⟨by omega,by omega⟩ ⟨FH.1,by omega⟩ ⟨by omega,by omega⟩ ⟨by omega,by omega⟩,rfl,FH.2,rfl⟩)
        · have hk3:¬ 1+k=2:=by omega
          obtain ⟨q0,q1,q2,q3,q4,q5,q6,q7,q8,q9,q10⟩:=H7.out.q.c11
          have lq:=H7.out.q.lt
          obtain ⟨fq0,fq1,fq2,fq3,fq4,fq5,fq6,fq7,fq8,fq9,fq10⟩:=H7.out.q.f11
          obtain ⟨z0,z1,z2,z3,z4,z5,z6,z7,z8,z9,z10⟩:=H7.out.z.c11
          obtain ⟨fz0,fz1,fz2,fz3,fz4,fz5,fz6,fz7,fz8,fz9,fz10⟩:=H7.out.z.f11
          have lz:=H7.out.z.lt
          go_wp2_with fail
          refine forgetW (fun WF=>RingAt W B (t+15) WF∧Box WF (W.heap.size+1+1) #[.int .i64 (1+k),.int .i64 st,.int .i64 ct,.int .i64 tick,.int .i64 0,.int .i64 dy,.int .i64 (er / 4),.int .i64 (1+FA / 2),.int .i64 wi,.int .i64 co,.bool (zz==0)] 50) (OfS.res (((H7.out.set NQ 4 (.int .i64 0)).set NQ 5 (.int .i64 dy)).set NQ 8 (.int .i64 wi)) _ _ _ _ _ _ _ _ _ _ _ (by omega) rfl) ?_
          clear q0 q1 q2 q3 q4 q5 q6 q7 q8 q9 q10 lq fq0 fq1 fq2 fq3 fq4 fq5 fq6 fq7 fq8 fq9 fq10 z0 z1 z2 z3 z4 z5 z6 z7 z8 z9 z10 fz0 fz1 fz2 fz3 fz4 fz5 fz6 fz7 fz8 fz9 fz10 lz
          rintro WF ⟨hRF,hbF⟩
          obtain ⟨z0,z1,z2,z3,z4,z5,z6,z7,z8,z9,z10⟩:=hbF.c11
          exact bodyPost_ret (v:=.agg #[.int .i64 (1+k),.int .i64 st,.int .i64 ct,.int .i64 tick,.int .i64 0,.int .i64 dy,.int .i64 (er / 4),.int .i64 (1+FA / 2),.int .i64 wi,.int .i64 co,.bool (zz==0)]) (by simp [results,Tryz.results41,go_sem,z0,z1,z2,z3,z4,z5,z6,z7,z8,z9,z10]) rfl (ring_at_out hRF (by omega) ⟨⟨_,_,_,_,_,_,_,_,_,_,_⟩,offE_mk HS0.out (by omega) k0 HF.out.1 HF.out.2.1 ⟨⟨by omega,by omega⟩,⟨by omega,by omega⟩,by omega⟩ HF.out.2.2 ⟨FH.1,by omega⟩ ⟨by omega,by omega⟩ ⟨by omega,by omega⟩,rfl,FH.2,rfl⟩)
 · have h6b:(h6==0)=false:=by simp [h60]
   obtain ⟨q0,q1,q2,q3,q4,q5,q6,q7,q8,q9,q10⟩:=H5.out.q.c11
   have lq:=H5.out.q.lt
   obtain ⟨fq0,fq1,fq2,fq3,fq4,fq5,fq6,fq7,fq8,fq9,fq10⟩:=H5.out.q.f11
   go_wp2_with fail
   go_loopw [13,14] (fun s13 s14 wr=>∃ dx dy:Int,s13=.int .i64 dx∧s14=.int .i64 dy∧((-70000000≤dx∧dx≤70000000) ∧ -70000000≤dy∧dy≤70000000)∧Hid (OfS W B #[.slice a n c,.int .i64 home,.slice sa sn sc,.slice ca cn cc] px py Q  (t+8+3+1+1) #[.int .i64 (1+k),.int .i64 st,.int .i64 ct,.int .i64 tick,.int .i64 0,.int .i64 0,.int .i64 (er / 4),.int .i64 FA,.int .i64 0,.int .i64 co,.bool (zz==0)] wr)) (fun s13 s14 _=>(intOf s13).natAbs+(intOf s14).natAbs)
   case atStart=>exact ⟨_,_,rfl,rfl,by omega,hide H5.out⟩
   case round =>
    obtain ⟨dx,dy,rfl,rfl,hb,HI⟩:=hrel
    clear q0 q1 q2 q3 q4 q5 q6 q7 q8 q9 q10 lq fq0 fq1 fq2 fq3 fq4 fq5 fq6 fq7 fq8 fq9 fq10
    by_cases hh:halfOut dx dy
    · have hm:=half_less hh
      have g1:=half_bd hb.1 (by omega)
      have g2:=half_bd hb.2 (by omega)
      have hh':4096<dx∨(¬ 4096<dx∧4096 < -dx)∨(¬ 4096<dx∧¬ 4096 < -dx∧4096<dy)∨(¬ 4096<dx∧¬ 4096 < -dx∧¬ 4096<dy∧4096 < -dy):=by unfold halfOut at hh;omega
      clear hh
      rcases hh' with h | ⟨h,h'⟩ | ⟨h,h',h''⟩ | ⟨h,h',h'',h3⟩
      all_goals
       go_wp2_with fail
       go_roundw
       case rel=>exact ⟨_,_,rfl,rfl,by omega,HI⟩
       case measure=>exact hm
    · have c1:¬ 4096<dx:=by unfold halfOut at hh;omega
      have c2:¬ 4096 < -dx:=by unfold halfOut at hh;omega
      have c3:¬ 4096<dy:=by unfold halfOut at hh;omega
      have c4:¬ 4096 < -dy:=by unfold halfOut at hh;omega
      clear hh
      have hz:(dx=0∧dy=0)∨¬ dx=0∨(dx=0∧¬ dy=0):=by omega
      rcases hz with ⟨rfl,rfl⟩ | hz | ⟨rfl,hz⟩
      · skip
        go_wp2_with fail
        go_at_call 34
        refine forgetC (OfS W B #[.slice a n c,.int .i64 home,.slice sa sn sc,.slice ca cn cc] px py Q  (t+8+3+1+1) #[.int .i64 (1+k),.int .i64 st,.int .i64 ct,.int .i64 tick,.int .i64 0,.int .i64 0,.int .i64 (er / 4),.int .i64 FA,.int .i64 0,.int .i64 co,.bool (zz==0)]) (by (repeat (first|with_reducible apply OfS.ext|with_reducible apply OfS.alloc|with_reducible apply OfS.drew));exact HI.out) ?_
        intro U6 hU6
        have H6:=hide hU6
        clear hU6
        refine (KN.out 300000 (by omega) (by omega) (t+8+3+1+1) _ H6.out.r (by omega)).mono ?_
        rintro _ U7 ⟨_,rfl,⟨wi,wi0,wi1,rfl⟩,hRU7,hgU7⟩
        have H7:=hide (H6.out.grown hRU7 hgU7 NS NQ)
        clear hRU7 hgU7
        by_cases hk2:k=1
        · subst hk2
          obtain ⟨q0,q1,q2,q3,q4,q5,q6,q7,q8,q9,q10⟩:=H7.out.q.c11
          have lq:=H7.out.q.lt
          obtain ⟨fq0,fq1,fq2,fq3,fq4,fq5,fq6,fq7,fq8,fq9,fq10⟩:=H7.out.q.f11
          go_wp2_with fail
          go_at_call 34
          refine forgetC (OfS W B #[.slice a n c,.int .i64 home,.slice sa sn sc,.slice ca cn cc] px py Q  (t+8+3+1+1+1) #[.int .i64 2,.int .i64 st,.int .i64 ct,.int .i64 tick,.int .i64 1,.int .i64 0,.int .i64 (er / 4),.int .i64 FA,.int .i64 wi,.int .i64 co,.bool (zz==0)]) (by (repeat (first|with_reducible apply OfS.ext|with_reducible apply OfS.alloc|with_reducible apply OfS.drew));exact (((H7.out.set NQ 4 (.int .i64 1)).set NQ 5 (.int .i64 0)).set NQ 8 (.int .i64 wi))) ?_
          intro U8 hU8
          have H8:=hide hU8
          clear q0 q1 q2 q3 q4 q5 q6 q7 q8 q9 q10 lq fq0 fq1 fq2 fq3 fq4 fq5 fq6 fq7 fq8 fq9 fq10
          clear hU8
          refine (KN.out 60 (by omega) (by omega) (t+8+3+1+1+1) _ H8.out.r (by omega)).mono ?_
          rintro _ U9 ⟨_,rfl,⟨e2,e20,e21,rfl⟩,hRU9,hgU9⟩
          have H9:=hide (H8.out.grown hRU9 hgU9 NS NQ)
          clear hRU9 hgU9
          obtain ⟨q0,q1,q2,q3,q4,q5,q6,q7,q8,q9,q10⟩:=H9.out.q.c11
          have lq:=H9.out.q.lt
          obtain ⟨fq0,fq1,fq2,fq3,fq4,fq5,fq6,fq7,fq8,fq9,fq10⟩:=H9.out.q.f11
          obtain ⟨z0,z1,z2,z3,z4,z5,z6,z7,z8,z9,z10⟩:=H9.out.z.c11
          obtain ⟨fz0,fz1,fz2,fz3,fz4,fz5,fz6,fz7,fz8,fz9,fz10⟩:=H9.out.z.f11
          have lz:=H9.out.z.lt
          go_wp2_with fail
          refine forgetW (fun WF=>RingAt W B (t+15) WF∧Box WF (W.heap.size+1+1) #[.int .i64 2,.int .i64 st,.int .i64 ct,.int .i64 tick,.int .i64 1,.int .i64 0,.int .i64 e2,.int .i64 FA,.int .i64 wi,.int .i64 co,.bool (zz==0)] 50) (OfS.res (H9.out.set NQ 6 (.int .i64 e2)) _ _ _ _ _ _ _ _ _ _ _ (by omega) rfl) ?_
          clear q0 q1 q2 q3 q4 q5 q6 q7 q8 q9 q10 lq fq0 fq1 fq2 fq3 fq4 fq5 fq6 fq7 fq8 fq9 fq10 z0 z1 z2 z3 z4 z5 z6 z7 z8 z9 z10 fz0 fz1 fz2 fz3 fz4 fz5 fz6 fz7 fz8 fz9 fz10 lz
          rintro WF ⟨hRF,hbF⟩
          obtain ⟨z0,z1,z2,z3,z4,z5,z6,z7,z8,z9,z10⟩:=hbF.c11
          exact bodyPost_ret (v:=.agg #[.int .i64 2,.int .i64 st,.int .i64 ct,.int .i64 tick,.int .i64 1,.int .i64 0,.int .i64 e2,.int .i64 FA,.int .i64 wi,.int .i64 co,.bool (zz==0)]) (by simp [results,Tryz.results41,go_sem,z0,z1,z2,z3,z4,z5,z6,z7,z8,z9,z10]) rfl (ring_at_out hRF (by omega) ⟨⟨_,_,_,_,_,_,_,_,_,_,_⟩,offE_mk HS0.out (by omega) k0 HF.out.1 HF.out.2.1 ⟨⟨by omega,by omega⟩,⟨by omega,by omega⟩,by omega⟩ ⟨by omega,by omega⟩ ⟨FA0.1,by omega⟩ ⟨by omega,by omega⟩ ⟨by omega,by omega⟩,rfl,FA0.2,rfl⟩)
        · have hk3:¬ 1+k=2:=by omega
          obtain ⟨q0,q1,q2,q3,q4,q5,q6,q7,q8,q9,q10⟩:=H7.out.q.c11
          have lq:=H7.out.q.lt
          obtain ⟨fq0,fq1,fq2,fq3,fq4,fq5,fq6,fq7,fq8,fq9,fq10⟩:=H7.out.q.f11
          obtain ⟨z0,z1,z2,z3,z4,z5,z6,z7,z8,z9,z10⟩:=H7.out.z.c11
          obtain ⟨fz0,fz1,fz2,fz3,fz4,fz5,fz6,fz7,fz8,fz9,fz10⟩:=H7.out.z.f11
          have lz:=H7.out.z.lt
          go_wp2_with fail
          refine forgetW (fun WF=>RingAt W B (t+15) WF∧Box WF (W.heap.size+1+1) #[.int .i64 (1+k),.int .i64 st,.int .i64 ct,.int .i64 tick,.int .i64 1,.int .i64 0,.int .i64 (er / 4),.int .i64 FA,.int .i64 wi,.int .i64 co,.bool (zz==0)] 50) (OfS.res (((H7.out.set NQ 4 (.int .i64 1)).set NQ 5 (.int .i64 0)).set NQ 8 (.int .i64 wi)) _ _ _ _ _ _ _ _ _ _ _ (by omega) rfl) ?_
          clear q0 q1 q2 q3 q4 q5 q6 q7 q8 q9 q10 lq fq0 fq1 fq2 fq3 fq4 fq5 fq6 fq7 fq8 fq9 fq10 z0 z1 z2 z3 z4 z5 z6 z7 z8 z9 z10 fz0 fz1 fz2 fz3 fz4 fz5 fz6 fz7 fz8 fz9 fz10 lz
          rintro WF ⟨hRF,hbF⟩
          obtain ⟨z0,z1,z2,z3,z4,z5,z6,z7,z8,z9,z10⟩:=hbF.c11
          exact bodyPost_ret (v:=.agg #[.int .i64 (1+k),.int .i64 st,.int .i64 ct,.int .i64 tick,.int .i64 1,.int .i64 0,.int .i64 (er / 4),.int .i64 FA,.int .i64 wi,.int .i64 co,.bool (zz==0)]) (by simp [results,Tryz.results41,go_sem,z0,z1,z2,z3,z4,z5,z6,z7,z8,z9,z10]) rfl (ring_at_out hRF (by omega) ⟨⟨_,_,_,_,_,_,_,_,_,_,_⟩,offE_mk HS0.out (by omega) k0 HF.out.1 HF.out.2.1 ⟨⟨by omega,by omega⟩,⟨by omega,by omega⟩,by omega⟩ HF.out.2.2 ⟨FA0.1,by omega⟩ ⟨by omega,by omega⟩ ⟨by omega,by omega⟩,rfl,FA0.2,rfl⟩)
      · skip
        go_wp2_with fail
        go_at_call 34
        refine forgetC (OfS W B #[.slice a n c,.int .i64 home,.slice sa sn sc,.slice ca cn cc] px py Q  (t+8+3+1+1) #[.int .i64 (1+k),.int .i64 st,.int .i64 ct,.int .i64 tick,.int .i64 0,.int .i64 0,.int .i64 (er / 4),.int .i64 FA,.int .i64 0,.int .i64 co,.bool (zz==0)]) (by (repeat (first|with_reducible apply OfS.ext|with_reducible apply OfS.alloc|with_reducible apply OfS.drew));exact HI.out) ?_
        intro U6 hU6
        have H6:=hide hU6
        clear hU6
        refine (KN.out 300000 (by omega) (by omega) (t+8+3+1+1) _ H6.out.r (by omega)).mono ?_
        rintro _ U7 ⟨_,rfl,⟨wi,wi0,wi1,rfl⟩,hRU7,hgU7⟩
        have H7:=hide (H6.out.grown hRU7 hgU7 NS NQ)
        clear hRU7 hgU7
        by_cases hk2:k=1
        · subst hk2
          obtain ⟨q0,q1,q2,q3,q4,q5,q6,q7,q8,q9,q10⟩:=H7.out.q.c11
          have lq:=H7.out.q.lt
          obtain ⟨fq0,fq1,fq2,fq3,fq4,fq5,fq6,fq7,fq8,fq9,fq10⟩:=H7.out.q.f11
          go_wp2_with fail
          go_at_call 34
          refine forgetC (OfS W B #[.slice a n c,.int .i64 home,.slice sa sn sc,.slice ca cn cc] px py Q  (t+8+3+1+1+1) #[.int .i64 2,.int .i64 st,.int .i64 ct,.int .i64 tick,.int .i64 dx,.int .i64 dy,.int .i64 (er / 4),.int .i64 FA,.int .i64 wi,.int .i64 co,.bool (zz==0)]) (by (repeat (first|with_reducible apply OfS.ext|with_reducible apply OfS.alloc|with_reducible apply OfS.drew));exact (((H7.out.set NQ 4 (.int .i64 dx)).set NQ 5 (.int .i64 dy)).set NQ 8 (.int .i64 wi))) ?_
          intro U8 hU8
          have H8:=hide hU8
          clear q0 q1 q2 q3 q4 q5 q6 q7 q8 q9 q10 lq fq0 fq1 fq2 fq3 fq4 fq5 fq6 fq7 fq8 fq9 fq10
          clear hU8
          refine (KN.out 60 (by omega) (by omega) (t+8+3+1+1+1) _ H8.out.r (by omega)).mono ?_
          rintro _ U9 ⟨_,rfl,⟨e2,e20,e21,rfl⟩,hRU9,hgU9⟩
          have H9:=hide (H8.out.grown hRU9 hgU9 NS NQ)
          clear hRU9 hgU9
          obtain ⟨q0,q1,q2,q3,q4,q5,q6,q7,q8,q9,q10⟩:=H9.out.q.c11
          have lq:=H9.out.q.lt
          obtain ⟨fq0,fq1,fq2,fq3,fq4,fq5,fq6,fq7,fq8,fq9,fq10⟩:=H9.out.q.f11
          obtain ⟨z0,z1,z2,z3,z4,z5,z6,z7,z8,z9,z10⟩:=H9.out.z.c11
          obtain ⟨fz0,fz1,fz2,fz3,fz4,fz5,fz6,fz7,fz8,fz9,fz10⟩:=H9.out.z.f11
          have lz:=H9.out.z.lt
          go_wp2_with fail
          refine forgetW (fun WF=>RingAt W B (t+15) WF∧Box WF (W.heap.size+1+1) #[.int .i64 2,.int .i64 st,.int .i64 ct,.int .i64 tick,.int .i64 dx,.int .i64 dy,.int .i64 e2,.int .i64 FA,.int .i64 wi,.int .i64 co,.bool (zz==0)] 50) (OfS.res (H9.out.set NQ 6 (.int .i64 e2)) _ _ _ _ _ _ _ _ _ _ _ (by omega) rfl) ?_
          clear q0 q1 q2 q3 q4 q5 q6 q7 q8 q9 q10 lq fq0 fq1 fq2 fq3 fq4 fq5 fq6 fq7 fq8 fq9 fq10 z0 z1 z2 z3 z4 z5 z6 z7 z8 z9 z10 fz0 fz1 fz2 fz3 fz4 fz5 fz6 fz7 fz8 fz9 fz10 lz
          rintro WF ⟨hRF,hbF⟩
          obtain ⟨z0,z1,z2,z3,z4,z5,z6,z7,z8,z9,z10⟩:=hbF.c11
          exact bodyPost_ret (v:=.agg #[.int .i64 2,.int .i64 st,.int .i64 ct,.int .i64 tick,.int .i64 dx,.int .i64 dy,.int .i64 e2,.int .i64 FA,.int .i64 wi,.int .i64 co,.bool (zz==0)]) (by simp [results,Tryz.results41,go_sem,z0,z1,z2,z3,z4,z5,z6,z7,z8,z9,z10]) rfl (ring_at_out hRF (by omega) ⟨⟨_,_,_,_,_,_,_,_,_,_,_⟩,offE_mk HS0.out (by omega) k0 HF.out.1 HF.out.2.1 ⟨⟨by omega,by omega⟩,⟨by omega,by omega⟩,by omega⟩ ⟨by omega,by omega⟩ ⟨FA0.1,by omega⟩ ⟨by omega,by omega⟩ ⟨by omega,by omega⟩,rfl,FA0.2,rfl⟩)
        · have hk3:¬ 1+k=2:=by omega
          obtain ⟨q0,q1,q2,q3,q4,q5,q6,q7,q8,q9,q10⟩:=H7.out.q.c11
          have lq:=H7.out.q.lt
          obtain ⟨fq0,fq1,fq2,fq3,fq4,fq5,fq6,fq7,fq8,fq9,fq10⟩:=H7.out.q.f11
          obtain ⟨z0,z1,z2,z3,z4,z5,z6,z7,z8,z9,z10⟩:=H7.out.z.c11
          obtain ⟨fz0,fz1,fz2,fz3,fz4,fz5,fz6,fz7,fz8,fz9,fz10⟩:=H7.out.z.f11
          have lz:=H7.out.z.lt
          go_wp2_with fail
          refine forgetW (fun WF=>RingAt W B (t+15) WF∧Box WF (W.heap.size+1+1) #[.int .i64 (1+k),.int .i64 st,.int .i64 ct,.int .i64 tick,.int .i64 dx,.int .i64 dy,.int .i64 (er / 4),.int .i64 FA,.int .i64 wi,.int .i64 co,.bool (zz==0)] 50) (OfS.res (((H7.out.set NQ 4 (.int .i64 dx)).set NQ 5 (.int .i64 dy)).set NQ 8 (.int .i64 wi)) _ _ _ _ _ _ _ _ _ _ _ (by omega) rfl) ?_
          clear q0 q1 q2 q3 q4 q5 q6 q7 q8 q9 q10 lq fq0 fq1 fq2 fq3 fq4 fq5 fq6 fq7 fq8 fq9 fq10 z0 z1 z2 z3 z4 z5 z6 z7 z8 z9 z10 fz0 fz1 fz2 fz3 fz4 fz5 fz6 fz7 fz8 fz9 fz10 lz
          rintro WF ⟨hRF,hbF⟩
          obtain ⟨z0,z1,z2,z3,z4,z5,z6,z7,z8,z9,z10⟩:=hbF.c11
          exact bodyPost_ret (v:=.agg #[.int .i64 (1+k),.int .i64 st,.int .i64 ct,.int .i64 tick,.int .i64 dx,.int .i64 dy,.int .i64 (er / 4),.int .i64 FA,.int .i64 wi,.int .i64 co,.bool (zz==0)]) (by simp [results,Tryz.results41,go_sem,z0,z1,z2,z3,z4,z5,z6,z7,z8,z9,z10]) rfl (ring_at_out hRF (by omega) ⟨⟨_,_,_,_,_,_,_,_,_,_,_⟩,offE_mk HS0.out (by omega) k0 HF.out.1 HF.out.2.1 ⟨⟨by omega,by omega⟩,⟨by omega,by omega⟩,by omega⟩ HF.out.2.2 ⟨FA0.1,by omega⟩ ⟨by omega,by omega⟩ ⟨by omega,by omega⟩,rfl,FA0.2,rfl⟩)
      · skip
        go_wp2_with fail
        go_at_call 34
        refine forgetC (OfS W B #[.slice a n c,.int .i64 home,.slice sa sn sc,.slice ca cn cc] px py Q  (t+8+3+1+1) #[.int .i64 (1+k),.int .i64 st,.int .i64 ct,.int .i64 tick,.int .i64 0,.int .i64 0,.int .i64 (er / 4),.int .i64 FA,.int .i64 0,.int .i64 co,.bool (zz==0)]) (by (repeat (first|with_reducible apply OfS.ext|with_reducible apply OfS.alloc|with_reducible apply OfS.drew));exact HI.out) ?_
        intro U6 hU6
        have H6:=hide hU6
        clear hU6
        refine (KN.out 300000 (by omega) (by omega) (t+8+3+1+1) _ H6.out.r (by omega)).mono ?_
        rintro _ U7 ⟨_,rfl,⟨wi,wi0,wi1,rfl⟩,hRU7,hgU7⟩
        have H7:=hide (H6.out.grown hRU7 hgU7 NS NQ)
        clear hRU7 hgU7
        by_cases hk2:k=1
        · subst hk2
          obtain ⟨q0,q1,q2,q3,q4,q5,q6,q7,q8,q9,q10⟩:=H7.out.q.c11
          have lq:=H7.out.q.lt
          obtain ⟨fq0,fq1,fq2,fq3,fq4,fq5,fq6,fq7,fq8,fq9,fq10⟩:=H7.out.q.f11
          go_wp2_with fail
          go_at_call 34
          refine forgetC (OfS W B #[.slice a n c,.int .i64 home,.slice sa sn sc,.slice ca cn cc] px py Q  (t+8+3+1+1+1) #[.int .i64 2,.int .i64 st,.int .i64 ct,.int .i64 tick,.int .i64 0,.int .i64 dy,.int .i64 (er / 4),.int .i64 FA,.int .i64 wi,.int .i64 co,.bool (zz==0)]) (by (repeat (first|with_reducible apply OfS.ext|with_reducible apply OfS.alloc|with_reducible apply OfS.drew));exact (((H7.out.set NQ 4 (.int .i64 0)).set NQ 5 (.int .i64 dy)).set NQ 8 (.int .i64 wi))) ?_
          intro U8 hU8
          have H8:=hide hU8
          clear q0 q1 q2 q3 q4 q5 q6 q7 q8 q9 q10 lq fq0 fq1 fq2 fq3 fq4 fq5 fq6 fq7 fq8 fq9 fq10
          clear hU8
          refine (KN.out 60 (by omega) (by omega) (t+8+3+1+1+1) _ H8.out.r (by omega)).mono ?_
          rintro _ U9 ⟨_,rfl,⟨e2,e20,e21,rfl⟩,hRU9,hgU9⟩
          have H9:=hide (H8.out.grown hRU9 hgU9 NS NQ)
          clear hRU9 hgU9
          obtain ⟨q0,q1,q2,q3,q4,q5,q6,q7,q8,q9,q10⟩:=H9.out.q.c11
          have lq:=H9.out.q.lt
          obtain ⟨fq0,fq1,fq2,fq3,fq4,fq5,fq6,fq7,fq8,fq9,fq10⟩:=H9.out.q.f11
          obtain ⟨z0,z1,z2,z3,z4,z5,z6,z7,z8,z9,z10⟩:=H9.out.z.c11
          obtain ⟨fz0,fz1,fz2,fz3,fz4,fz5,fz6,fz7,fz8,fz9,fz10⟩:=H9.out.z.f11
          have lz:=H9.out.z.lt
          go_wp2_with fail
          refine forgetW (fun WF=>RingAt W B (t+15) WF∧Box WF (W.heap.size+1+1) #[.int .i64 2,.int .i64 st,.int .i64 ct,.int .i64 tick,.int .i64 0,.int .i64 dy,.int .i64 e2,.int .i64 FA,.int .i64 wi,.int .i64 co,.bool (zz==0)] 50) (OfS.res (H9.out.set NQ 6 (.int .i64 e2)) _ _ _ _ _ _ _ _ _ _ _ (by omega) rfl) ?_
          clear q0 q1 q2 q3 q4 q5 q6 q7 q8 q9 q10 lq fq0 fq1 fq2 fq3 fq4 fq5 fq6 fq7 fq8 fq9 fq10 z0 z1 z2 z3 z4 z5 z6 z7 z8 z9 z10 fz0 fz1 fz2 fz3 fz4 fz5 fz6 fz7 fz8 fz9 fz10 lz
          rintro WF ⟨hRF,hbF⟩
          obtain ⟨z0,z1,z2,z3,z4,z5,z6,z7,z8,z9,z10⟩:=hbF.c11
          exact bodyPost_ret (v:=.agg #[.int .i64 2,.int .i64 st,.int .i64 ct,.int .i64 tick,.int .i64 0,.int .i64 dy,.int .i64 e2,.int .i64 FA,.int .i64 wi,.int .i64 co,.bool (zz==0)]) (by simp [results,Tryz.results41,go_sem,z0,z1,z2,z3,z4,z5,z6,z7,z8,z9,z10]) rfl (ring_at_out hRF (by omega) ⟨⟨_,_,_,_,_,_,_,_,_,_,_⟩,offE_mk HS0.out (by omega) k0 HF.out.1 HF.out.2.1 ⟨⟨by omega,by omega⟩,⟨by omega,by omega⟩,by omega⟩ ⟨by omega,by omega⟩ ⟨FA0.1,by omega⟩ ⟨by omega,by omega⟩ ⟨by omega,by omega⟩,rfl,FA0.2,rfl⟩)
        · have hk3:¬ 1+k=2:=by omega
          obtain ⟨q0,q1,q2,q3,q4,q5,q6,q7,q8,q9,q10⟩:=H7.out.q.c11
          have lq:=H7.out.q.lt
          obtain ⟨fq0,fq1,fq2,fq3,fq4,fq5,fq6,fq7,fq8,fq9,fq10⟩:=H7.out.q.f11
          obtain ⟨z0,z1,z2,z3,z4,z5,z6,z7,z8,z9,z10⟩:=H7.out.z.c11
          obtain ⟨fz0,fz1,fz2,fz3,fz4,fz5,fz6,fz7,fz8,fz9,fz10⟩:=H7.out.z.f11
          have lz:=H7.out.z.lt
          go_wp2_with fail
          refine forgetW (fun WF=>RingAt W B (t+15) WF∧Box WF (W.heap.size+1+1) #[.int .i64 (1+k),.int .i64 st,.int .i64 ct,.int .i64 tick,.int .i64 0,.int .i64 dy,.int .i64 (er / 4),.int .i64 FA,.int .i64 wi,.int .i64 co,.bool (zz==0)] 50) (OfS.res (((H7.out.set NQ 4 (.int .i64 0)).set NQ 5 (.int .i64 dy)).set NQ 8 (.int .i64 wi)) _ _ _ _ _ _ _ _ _ _ _ (by omega) rfl) ?_
          clear q0 q1 q2 q3 q4 q5 q6 q7 q8 q9 q10 lq fq0 fq1 fq2 fq3 fq4 fq5 fq6 fq7 fq8 fq9 fq10 z0 z1 z2 z3 z4 z5 z6 z7 z8 z9 z10 fz0 fz1 fz2 fz3 fz4 fz5 fz6 fz7 fz8 fz9 fz10 lz
          rintro WF ⟨hRF,hbF⟩
          obtain ⟨z0,z1,z2,z3,z4,z5,z6,z7,z8,z9,z10⟩:=hbF.c11
          exact bodyPost_ret (v:=.agg #[.int .i64 (1+k),.int .i64 st,.int .i64 ct,.int .i64 tick,.int .i64 0,.int .i64 dy,.int .i64 (er / 4),.int .i64 FA,.int .i64 wi,.int .i64 co,.bool (zz==0)]) (by simp [results,Tryz.results41,go_sem,z0,z1,z2,z3,z4,z5,z6,z7,z8,z9,z10]) rfl (ring_at_out hRF (by omega) ⟨⟨_,_,_,_,_,_,_,_,_,_,_⟩,offE_mk HS0.out (by omega) k0 HF.out.1 HF.out.2.1 ⟨⟨by omega,by omega⟩,⟨by omega,by omega⟩,by omega⟩ HF.out.2.2 ⟨FA0.1,by omega⟩ ⟨by omega,by omega⟩ ⟨by omega,by omega⟩,rfl,FA0.2,rfl⟩)
theorem offerof_at {w:World} {sl:Value} (hN:Nums w sl) {B:Nat} (hB:w.heap.size≤B) {K:Nat→Prop} (hK:∀ b,K b→b≠B) {a sa ca:Option Addr} {n c sn sc cn cc:Nat} {s:SkyD} {tick px py:Int} (hs:skyE s=0) (hn1:0<sn) (hn2:0<cn) (k0:0≤tick∧tick≤1000000) (hp:(-32000000≤px∧px≤32000000) ∧ -32000000≤py∧py≤32000000)
 {t:Int} {W V:World} (hu:Up w W) (hb:Box W B #[sl,.int .i64 t] 98) {m:Int} (hW:RingAt W B m V) (hL:SkyL K V a n c sa sn sc ca cn cc s) (hm:m+15≤100000) :
 Calls Tryz.prog 41 #[.pointer (some ⟨B,0,none⟩),.agg #[.slice a n c,.int .i64 s.home,.slice sa sn sc,.slice ca cn cc],.int .i64 tick,.agg #[.int .i64 (px),.int .i64 (py)]] V fun e W'=>∃ v,e=.returned v∧ROffer s tick v∧RingAt W B (m+15) W'∧V.grownBy W' (some B):=by
 obtain ⟨t1,h0,h1,hbW⟩:=hW.box hb
 refine (offerof_any hN hB hK hs hn1 hn2 k0 hp t1 V (hW.up hu hB) hbW hL h0 (by omega)).mono ?_
 rintro e W' ⟨v,t',p',he,h2,h3,h4,rfl⟩
 exact ⟨v,he,h2,hW.called hb.lt h3 (by omega) p',grown_up (grown_set (grown_refl _ _) _ _) ((Up.refl _).ext _)⟩
theorem xarea6_any (a b c d:Int) (w:World):Gives Tryz.prog 20 #[.int .i64 a,.int .i64 b,.int .i64 c,.int .i64 d] w (.agg #[.int .i64 (a),.int .i64 (b),.int .i64 (c),.int .i64 (d)]):=by
 (unfold Gives;go_enter Tryz.func20,Tryz.ntmps20)
 go_wp2
 all_goals (refine bodyPost_give Up.go rfl ⟨_,(by simp [results,Tryz.results20,go_sem];rfl),?_⟩)
 all_goals rfl
theorem wView_any {K:Nat→Prop} {w:World} {a sa ca:Option Addr} {n c sn sc cn cc:Nat} {s:SkyD} (hL:SkyL K w a n c sa sn sc ca cn cc s) (o:OffD) (x:Ar4):Gives Tryz.prog 21 #[.agg #[.slice a n c,.int .i64 s.home,.slice sa sn sc,.slice ca cn cc],.agg (offA o),.agg #[.int .i64 (x.1),.int .i64 (x.2.1),.int .i64 (x.2.2.1),.int .i64 (x.2.2.2)]] w (.tuple #[.agg (viewA (viewV s o x).1),.int .i64 (viewV s o x).2]):=by
 have HC:=hide (fun W (hu:Up w W)=>wcheck_any (hL.up hu).b hL.h (hL.up hu).st (hL.up hu).ca o)
 have HP:=hide (fun W=>warea_any x W)
 unfold viewV
 by_cases he:offE s o=0
 rotate_left
 · rw [if_neg he]
   have heb:(offE s o != 0)=true:=by simpa using he
   generalize offE s o=e at *
   generalize s.home=home at *
   clear hL he HP
   obtain ⟨x0,x1,y0,y1⟩:=x
   dsimp only
   (unfold Gives;go_enter Tryz.func21,Tryz.ntmps21)
   go_wp2_with fail
   go_at_call 44
   refine forgetK (fun V=>Up w V∧Box V w.heap.size #[.slice a n c,.int .i64 home,.slice sa sn sc,.slice ca cn cc] 29∧Box V (w.heap.size+1) (offA o) 50∧Box V (w.heap.size+1+1) #[.int .i64 (x0),.int .i64 (x1),.int .i64 (y0),.int .i64 (y1)] 61∧Box V (w.heap.size+1+1+1) #[.bool false,.bool false,.int .i64 0,.int .i64 0] 64) ⟨Up.go,Box.go,Box.go,Box.go,Box.go⟩ ?_
   rintro V ⟨hu,bs,bo,bp,bz⟩
   have HB:=hide (And.intro hu (And.intro bs (And.intro bo (And.intro bp bz))))
   clear hu bs bo bp bz
   refine (HC.out _ HB.out.1).mono ?_
   intro p1
   obtain ⟨s0,s1,s2,s3⟩:=(HB.out.2.1).c4
   have ls:=(HB.out.2.1).lt
   obtain ⟨f0,f1,f2,f3,f4,f5,f6,f7,f8,f9,f10⟩:=(HB.out.2.2.1).c11
   have lf:=(HB.out.2.2.1).lt
   obtain ⟨g0,g1,g2,g3⟩:=(HB.out.2.2.2.1).c4
   have lg:=(HB.out.2.2.2.1).lt
   obtain ⟨z0,z1,z2,z3⟩:=(HB.out.2.2.2.2).c4
   have lz:=(HB.out.2.2.2.2).lt
   obtain ⟨fz0,fz1,fz2,fz3⟩:=(HB.out.2.2.2.2).f4
   go_wp2_with fail
   refine forgetW (fun WF=>Up w WF∧Box WF (w.heap.size+1+1+1) #[.bool false,.bool false,.int .i64 0,.int .i64 0] 64) ⟨(Up.viz HB.out.1),?_⟩ ?_
   · exact (by (repeat (first|with_reducible apply Box.ext|with_reducible apply Box.alloc|with_reducible apply Box.drew));exact ((((HB.out.2.2.2.2.set 0 (.bool false)).set 1 (.bool false)).set 2 (.int .i64 0)).set 3 (.int .i64 0)))
   rintro WF ⟨huF,hbF⟩
   obtain ⟨w0,w1,w2,w3⟩:=hbF.c4
   (refine bodyPost_give huF rfl ⟨_,(by simp [results,Tryz.results21,go_sem,w0,w1,w2,w3];rfl),?_⟩)
   rfl
 have HO:=hide (fun W (hu:Up w W)=>wof_any (hL.up hu).b hL.h (hL.up hu).st (hL.up hu).ca he)
 have hk:=kbd_of he
 rw [if_pos he]
 rw [he] at HC
 by_cases hA:areaB x=true
 rotate_left
 · rw [if_neg hA]
   rw [show areaB x=false by simpa using hA] at HP
   generalize s.home=home at *
   clear hL he hk hA HO
   obtain ⟨x0,x1,y0,y1⟩:=x
   dsimp only at *
   (unfold Gives;go_enter Tryz.func21,Tryz.ntmps21)
   go_wp2_with fail
   go_at_call 44
   refine forgetK (fun V=>Up w V∧Box V w.heap.size #[.slice a n c,.int .i64 home,.slice sa sn sc,.slice ca cn cc] 29∧Box V (w.heap.size+1) (offA o) 50∧Box V (w.heap.size+1+1) #[.int .i64 (x0),.int .i64 (x1),.int .i64 (y0),.int .i64 (y1)] 61∧Box V (w.heap.size+1+1+1) #[.bool false,.bool false,.int .i64 0,.int .i64 0] 64) ⟨Up.go,Box.go,Box.go,Box.go,Box.go⟩ ?_
   rintro V ⟨hu,bs,bo,bp,bz⟩
   have HB:=hide (And.intro hu (And.intro bs (And.intro bo (And.intro bp bz))))
   clear hu bs bo bp bz
   refine (HC.out _ HB.out.1).mono ?_
   intro p1
   obtain ⟨s0,s1,s2,s3⟩:=(HB.out.2.1).c4
   have ls:=(HB.out.2.1).lt
   obtain ⟨f0,f1,f2,f3,f4,f5,f6,f7,f8,f9,f10⟩:=(HB.out.2.2.1).c11
   have lf:=(HB.out.2.2.1).lt
   obtain ⟨g0,g1,g2,g3⟩:=(HB.out.2.2.2.1).c4
   have lg:=(HB.out.2.2.2.1).lt
   obtain ⟨z0,z1,z2,z3⟩:=(HB.out.2.2.2.2).c4
   have lz:=(HB.out.2.2.2.2).lt
   obtain ⟨fz0,fz1,fz2,fz3⟩:=(HB.out.2.2.2.2).f4
   go_wp2_with fail
   go_at_call 51
   refine (HP.out _).mono ?_
   intro p2
   go_wp2_with fail
   refine forgetW (fun WF=>Up w WF∧Box WF (w.heap.size+1+1+1) #[.bool false,.bool false,.int .i64 0,.int .i64 0] 64) ⟨(Up.viz HB.out.1),?_⟩ ?_
   · exact (by (repeat (first|with_reducible apply Box.ext|with_reducible apply Box.alloc|with_reducible apply Box.drew));exact ((((HB.out.2.2.2.2.set 0 (.bool false)).set 1 (.bool false)).set 2 (.int .i64 0)).set 3 (.int .i64 0)))
   rintro WF ⟨huF,hbF⟩
   obtain ⟨w0,w1,w2,w3⟩:=hbF.c4
   (refine bodyPost_give huF rfl ⟨_,(by simp [results,Tryz.results21,go_sem,w0,w1,w2,w3];rfl),?_⟩)
   rfl
 · rw [if_pos hA]
   rw [hA] at HP
   have HV:=hide (fun W=>wview_k hk ((areaB_iff x).1 hA) W)
   generalize viewK (kndOf s o) x=R at *
   generalize kndV (kndOf s o)=KV at *
   generalize s.home=home at *
   clear hL he hk hA
   obtain ⟨x0,x1,y0,y1⟩:=x
   dsimp only at *
   (unfold Gives;go_enter Tryz.func21,Tryz.ntmps21)
   go_wp2_with fail
   go_at_call 44
   refine forgetK (fun V=>Up w V∧Box V w.heap.size #[.slice a n c,.int .i64 home,.slice sa sn sc,.slice ca cn cc] 29∧Box V (w.heap.size+1) (offA o) 50∧Box V (w.heap.size+1+1) #[.int .i64 (x0),.int .i64 (x1),.int .i64 (y0),.int .i64 (y1)] 61∧Box V (w.heap.size+1+1+1) #[.bool false,.bool false,.int .i64 0,.int .i64 0] 64) ⟨Up.go,Box.go,Box.go,Box.go,Box.go⟩ ?_
   rintro V ⟨hu,bs,bo,bp,bz⟩
   have HB:=hide (And.intro hu (And.intro bs (And.intro bo (And.intro bp bz))))
   clear hu bs bo bp bz
   refine (HC.out _ HB.out.1).mono ?_
   intro p1
   obtain ⟨s0,s1,s2,s3⟩:=(HB.out.2.1).c4
   have ls:=(HB.out.2.1).lt
   obtain ⟨f0,f1,f2,f3,f4,f5,f6,f7,f8,f9,f10⟩:=(HB.out.2.2.1).c11
   have lf:=(HB.out.2.2.1).lt
   obtain ⟨g0,g1,g2,g3⟩:=(HB.out.2.2.2.1).c4
   have lg:=(HB.out.2.2.2.1).lt
   obtain ⟨z0,z1,z2,z3⟩:=(HB.out.2.2.2.2).c4
   have lz:=(HB.out.2.2.2.2).lt
   obtain ⟨fz0,fz1,fz2,fz3⟩:=(HB.out.2.2.2.2).f4
   go_wp2_with fail
   go_at_call 51
   refine (HP.out _).mono ?_
   intro p2
   go_wp2_with fail
   refine forgetW (fun V=>Up w V∧Box V w.heap.size #[.slice a n c,.int .i64 home,.slice sa sn sc,.slice ca cn cc] 29∧Box V (w.heap.size+1) (offA o) 50∧Box V (w.heap.size+1+1) #[.int .i64 (x0),.int .i64 (x1),.int .i64 (y0),.int .i64 (y1)] 61∧Box V (w.heap.size+1+1+1) #[.bool false,.bool false,.int .i64 0,.int .i64 0] 64) ⟨(Up.viz HB.out.1),(Box.viz HB.out.2.1),(Box.viz HB.out.2.2.1),(Box.viz HB.out.2.2.2.1),(Box.viz HB.out.2.2.2.2)⟩ ?_
   clear HB s0 s1 s2 s3 ls f0 f1 f2 f3 f4 f5 f6 f7 f8 f9 f10 lf g0 g1 g2 g3 lg z0 z1 z2 z3 lz fz0 fz1 fz2 fz3
   rintro V ⟨hu,bs,bo,bp,bz⟩
   have HB:=hide (And.intro hu (And.intro bs (And.intro bo (And.intro bp bz))))
   clear hu bs bo bp bz
   obtain ⟨s0,s1,s2,s3⟩:=(HB.out.2.1).c4
   have ls:=(HB.out.2.1).lt
   obtain ⟨f0,f1,f2,f3,f4,f5,f6,f7,f8,f9,f10⟩:=(HB.out.2.2.1).c11
   have lf:=(HB.out.2.2.1).lt
   obtain ⟨g0,g1,g2,g3⟩:=(HB.out.2.2.2.1).c4
   have lg:=(HB.out.2.2.2.1).lt
   obtain ⟨z0,z1,z2,z3⟩:=(HB.out.2.2.2.2).c4
   have lz:=(HB.out.2.2.2.2).lt
   obtain ⟨fz0,fz1,fz2,fz3⟩:=(HB.out.2.2.2.2).f4
   ((first | with_reducible refine wp_region_ext_tail2 2 (by kernel_rfl) (by kernel_rfl) ?_ | refine wp_region_ext_tail 2 (by kernel_rfl) (by kernel_rfl) ?_);simp only [List.length_cons,List.length_nil,Nat.reduceAdd,Nat.reduceSub,List.take_succ_cons,List.take_zero,List.drop_succ_cons,List.drop_zero];(repeat (go_big_quiet_step ((first | (go_at_call 50;with_reducible exact Gives.inRegion (HO.out _ (HB.out.1.ext _))) | (go_at_call 52;with_reducible exact Gives.inRegion (HV.out _))))));refine wpQuiet_nil ?_;intro _ hw';obtain ⟨_,hw''⟩:=hw';subst hw'')
   go_wp2_with fail
   refine forgetW (fun WF=>Up w WF∧Box WF (w.heap.size+1+1+1) (viewA R) 64) ⟨(Up.viz HB.out.1),?_⟩ ?_
   · exact (by (repeat (first|with_reducible apply Box.ext|with_reducible apply Box.alloc|with_reducible apply Box.drew));exact ((((HB.out.2.2.2.2.set 0 (.bool R.1)).set 1 (.bool R.2.1)).set 2 (.int .i64 R.2.2.1)).set 3 (.int .i64 R.2.2.2)))
   rintro WF ⟨huF,hbF⟩
   obtain ⟨w0,w1,w2,w3⟩:=hbF.c4
   (refine bodyPost_give huF rfl ⟨_,(by simp [results,Tryz.results21,go_sem,w0,w1,w2,w3];rfl),?_⟩)
   rfl
theorem fieldV_true {s:SkyD} {o:OffD} {p:Int×Int} (h:fieldV s o p=true):offE s o=0∧PBd p∧fieldK (kndOf s o) p=true:=by
 unfold fieldV at h
 simp only [Bool.and_eq_true,decide_eq_true_eq] at h
 exact ⟨h.1,(nearV_iff _ _).1 h.2.1,h.2.2⟩
theorem field_front {k:KndD} {p:Int×Int} (h:fieldK k p=true) (hs:k.sc=true):0<doK k p:=by
 unfold fieldK at h
 simp only [Bool.and_eq_true,Bool.or_eq_true,Bool.not_eq_true'] at h
 have:=h.2.resolve_left (by simp [hs])
 unfold withinK at this
 simp only [Bool.and_eq_true,decide_eq_true_eq] at this
 exact this.1
theorem wReads_any {K:Nat→Prop} {w:World} {a sa ca:Option Addr} {n c sn sc cn cc:Nat} {s:SkyD} (hL:SkyL K w a n c sa sn sc ca cn cc s) (o:OffD) (p:Int×Int):Gives Tryz.prog 19 #[.agg #[.slice a n c,.int .i64 s.home,.slice sa sn sc,.slice ca cn cc],.agg (offA o),.agg #[.int .i64 (p.1),.int .i64 (p.2)]] w (.tuple #[.agg #[.int .i64 ((readsV s o p).1.1),.int .i64 ((readsV s o p).1.2)],.bool (readsV s o p).2]):=by
 have HF:=hide (fun W (hu:Up w W)=>wField_any (hL.up hu) o p)
 unfold readsV
 by_cases hF:fieldV s o p=true
 rotate_left
 · rw [if_neg (by simp [hF])]
   rw [show fieldV s o p=false by simpa using hF] at HF
   generalize s.home=home at *
   clear hL hF
   obtain ⟨p1,p2⟩:=p
   dsimp only at *
   (unfold Gives;go_enter Tryz.func19,Tryz.ntmps19)
   go_wp2_with fail
   go_at_call 18
   refine forgetK (fun V=>Up w V∧Box V w.heap.size #[.slice a n c,.int .i64 home,.slice sa sn sc,.slice ca cn cc] 29∧Box V (w.heap.size+1) (offA o) 50∧Box V (w.heap.size+1+1) #[.int .i64 (p1),.int .i64 (p2)] 48∧Box V (w.heap.size+1+1+1) #[.int .i64 (0),.int .i64 (0)] 31) ⟨Up.go,Box.go,Box.go,Box.go,Box.go⟩ ?_
   rintro V ⟨hu,bs,bo,bp,bz⟩
   have HB:=hide (And.intro hu (And.intro bs (And.intro bo (And.intro bp bz))))
   clear hu bs bo bp bz
   refine (HF.out _ HB.out.1).mono ?_
   intro pf
   obtain ⟨s0,s1,s2,s3⟩:=(HB.out.2.1).c4
   have ls:=(HB.out.2.1).lt
   obtain ⟨f0,f1,f2,f3,f4,f5,f6,f7,f8,f9,f10⟩:=(HB.out.2.2.1).c11
   have lf:=(HB.out.2.2.1).lt
   obtain ⟨g0,g1⟩:=(HB.out.2.2.2.1).c2
   have lg:=(HB.out.2.2.2.1).lt
   obtain ⟨z0,z1⟩:=(HB.out.2.2.2.2).c2
   have lz:=(HB.out.2.2.2.2).lt
   obtain ⟨fz0,fz1⟩:=(HB.out.2.2.2.2).f2
   go_wp2_with fail
   refine forgetW (fun WF=>Up w WF∧Box WF (w.heap.size+1+1+1) #[.int .i64 (0),.int .i64 (0)] 31) ⟨(Up.viz HB.out.1),?_⟩ ?_
   · exact (by (repeat (first|with_reducible apply Box.ext|with_reducible apply Box.alloc|with_reducible apply Box.drew));exact ((HB.out.2.2.2.2.set 0 (.int .i64 0)).set 1 (.int .i64 0)))
   rintro WF ⟨huF,hbF⟩
   obtain ⟨w0,w1⟩:=hbF.c2
   (refine bodyPost_give huF rfl ⟨_,(by simp [results,Tryz.results19,go_sem,w0,w1];rfl),?_⟩)
   rfl
 rw [hF] at HF
 obtain ⟨he,hpb,hfk⟩:=fieldV_true hF
 have HO:=hide (fun W (hu:Up w W)=>wof_any (hL.up hu).b hL.h (hL.up hu).st (hL.up hu).ca he)
 have hk:=kbd_of he
 simp only [hF,true_and]
 generalize kndOf s o=k at *
 unfold kndV at HO
 cases hs:k.sc
 · rw [if_neg (by simp [hs])] at HO
   have HR:=hide (fun W=>wrreads_any hk hpb hs W)
   have hm:=fun (n:Nat) (w:World)=>(meth_r k n w).2.2.2
   simp only [mReads,theName] at hm
   generalize readsK k p=R at *
   obtain ⟨R1,R2⟩:=R
   generalize s.home=home at *
   clear hL he hk hpb hfk hs hF
   obtain ⟨p1,p2⟩:=p
   dsimp only at *
   have key:∀ (b:Bool),decide (R2<R1)=b→Gives Tryz.prog 19 #[.agg #[.slice a n c,.int .i64 home,.slice sa sn sc,.slice ca cn cc],.agg (offA o),.agg #[.int .i64 (p1),.int .i64 (p2)]] w (if b=true then (.tuple #[.agg #[.int .i64 (0),.int .i64 (0)],.bool false]) else (.tuple #[.agg #[.int .i64 (R1),.int .i64 (R2)],.bool true])):=fun b hb=>by
    cases b
    all_goals
     (unfold Gives;go_enter Tryz.func19,Tryz.ntmps19)
     go_wp2_with fail
     go_at_call 18
     refine forgetK (fun V=>Up w V∧Box V w.heap.size #[.slice a n c,.int .i64 home,.slice sa sn sc,.slice ca cn cc] 29∧Box V (w.heap.size+1) (offA o) 50∧Box V (w.heap.size+1+1) #[.int .i64 (p1),.int .i64 (p2)] 48∧Box V (w.heap.size+1+1+1) #[.int .i64 (0),.int .i64 (0)] 31) ⟨Up.go,Box.go,Box.go,Box.go,Box.go⟩ ?_
     rintro V ⟨hu,bs,bo,bp,bz⟩
     have HB:=hide (And.intro hu (And.intro bs (And.intro bo (And.intro bp bz))))
     clear hu bs bo bp bz
     refine (HF.out _ HB.out.1).mono ?_
     intro pf
     obtain ⟨s0,s1,s2,s3⟩:=(HB.out.2.1).c4
     have ls:=(HB.out.2.1).lt
     obtain ⟨f0,f1,f2,f3,f4,f5,f6,f7,f8,f9,f10⟩:=(HB.out.2.2.1).c11
     have lf:=(HB.out.2.2.1).lt
     obtain ⟨g0,g1⟩:=(HB.out.2.2.2.1).c2
     have lg:=(HB.out.2.2.2.1).lt
     obtain ⟨z0,z1⟩:=(HB.out.2.2.2.2).c2
     have lz:=(HB.out.2.2.2.2).lt
     obtain ⟨fz0,fz1⟩:=(HB.out.2.2.2.2).f2
     go_wp2_with fail
     refine forgetW (fun V=>Up w V∧Box V w.heap.size #[.slice a n c,.int .i64 home,.slice sa sn sc,.slice ca cn cc] 29∧Box V (w.heap.size+1) (offA o) 50∧Box V (w.heap.size+1+1) #[.int .i64 (p1),.int .i64 (p2)] 48∧Box V (w.heap.size+1+1+1) #[.int .i64 (0),.int .i64 (0)] 31) ⟨(Up.viz HB.out.1),(Box.viz HB.out.2.1),(Box.viz HB.out.2.2.1),(Box.viz HB.out.2.2.2.1),(Box.viz HB.out.2.2.2.2)⟩ ?_
     clear HB s0 s1 s2 s3 ls f0 f1 f2 f3 f4 f5 f6 f7 f8 f9 f10 lf g0 g1 lg z0 z1 lz fz0 fz1
     rintro V ⟨hu,bs,bo,bp,bz⟩
     have HB:=hide (And.intro hu (And.intro bs (And.intro bo (And.intro bp bz))))
     clear hu bs bo bp bz
     obtain ⟨s0,s1,s2,s3⟩:=(HB.out.2.1).c4
     have ls:=(HB.out.2.1).lt
     obtain ⟨f0,f1,f2,f3,f4,f5,f6,f7,f8,f9,f10⟩:=(HB.out.2.2.1).c11
     have lf:=(HB.out.2.2.1).lt
     obtain ⟨g0,g1⟩:=(HB.out.2.2.2.1).c2
     have lg:=(HB.out.2.2.2.1).lt
     obtain ⟨z0,z1⟩:=(HB.out.2.2.2.2).c2
     have lz:=(HB.out.2.2.2.2).lt
     obtain ⟨fz0,fz1⟩:=(HB.out.2.2.2.2).f2
     refine wp_region_float (al:=[(5,8,#[.int .i64 (0),.int .i64 (0)],31)]) (mv:=fun _=>false) [6] [0,1,2,3,4] (by kernel_rfl) (by kernel_rfl) (makes1 ⟨_,rfl,rfl,fun _=>rfl,fun _ _=>by simp [go_sem]⟩) (cls_ext _) (by first|exact drew_in2 _ _|exact drew_in _) (Nat.le_refl _) ?_
     simp only [withOps,List.filterMap_cons,List.filterMap_nil,List.getElem?_toArray,List.getElem?_cons_zero,List.getElem?_cons_succ,Option.map_some]
     (repeat (first|(apply walkF_pure (base:=fun p:Ext=>ext _ p) rfl rfl rfl (by kernel_rfl);· (intro px K hK;go_big_quiet_op;first|exact hK|(apply Exists.intro;refine ⟨fun _=>?_,?_⟩;(· ((first|(go_at_call 50;with_reducible exact Gives.inFloat (HO.out _ (Up.ext HB.out.1 _)))|(go_at_call 293;with_reducible exact Gives.inFloat (HR.out _)))));exact hK)))|(apply walkF_skip rfl;simp only [Act.put,List.setIfInBounds_toArray,List.set_cons_zero,List.set_cons_succ])))
     refine walkF_nil (end1 (fun Q U hq hU bq=>?_))
     simp only [Act.put,List.setIfInBounds_toArray,List.set_cons_zero,List.set_cons_succ]
     (try simp only [List.filterMap_cons,List.filterMap_nil,List.getElem?_toArray,List.getElem?_cons_zero,List.getElem?_cons_succ])
     have hU1:Up V U:=hU
     have HQ:=hide (And.intro (HB.out.1.trans hU1) (And.intro (HB.out.2.2.2.2.up hU1) bq))
     have hlz:=HB.out.2.2.2.2.lt
     clear s0 s1 s2 s3 ls f0 f1 f2 f3 f4 f5 f6 f7 f8 f9 f10 lf g0 g1 lg z0 z1 lz fz0 fz1
     obtain ⟨q0,q1⟩:=bq.c2
     have lq:=bq.lt
     obtain ⟨fq0,fq1⟩:=bq.f2
     obtain ⟨z0,z1⟩:=HQ.out.2.1.c2
     have lz:=HQ.out.2.1.lt
     obtain ⟨fz0,fz1⟩:=HQ.out.2.1.f2
     have hwQ:w.heap.size≤Q:=by omega
     have n1:w.heap.size+1+1+1≠Q:=by omega
     have n2:Q≠w.heap.size+1+1+1:=by omega
     clear hU hU1 bq HB
     go_wp2_with fail
    · refine forgetW (fun WF=>Up w WF∧Box WF (w.heap.size+1+1+1) #[.int .i64 (R1),.int .i64 (R2)] 31) ⟨(Up.viz HQ.out.1),?_⟩ ?_
      · exact (by (repeat (first|with_reducible apply Box.ext|with_reducible apply Box.alloc|with_reducible apply Box.drew));exact ((((HQ.out.2.1.other (b':=Q) n1 0 (.int .i64 R1)).other (b':=Q) n1 1 (.int .i64 R2)).set 0 (.int .i64 R1)).set 1 (.int .i64 R2)))
      rintro WF ⟨huF,hbF⟩
      obtain ⟨w0,w1⟩:=hbF.c2
      (refine bodyPost_give huF rfl ⟨_,(by simp [results,Tryz.results19,go_sem,w0,w1];rfl),?_⟩)
      rfl
    · refine forgetW (fun WF=>Up w WF∧Box WF (w.heap.size+1+1+1) #[.int .i64 (0),.int .i64 (0)] 31) ⟨(Up.viz HQ.out.1),?_⟩ ?_
      · exact (by (repeat (first|with_reducible apply Box.ext|with_reducible apply Box.alloc|with_reducible apply Box.drew));exact ((((HQ.out.2.1.other (b':=Q) n1 0 (.int .i64 R1)).other (b':=Q) n1 1 (.int .i64 R2)).set 0 (.int .i64 0)).set 1 (.int .i64 0)))
      rintro WF ⟨huF,hbF⟩
      obtain ⟨w0,w1⟩:=hbF.c2
      (refine bodyPost_give huF rfl ⟨_,(by simp [results,Tryz.results19,go_sem,w0,w1];rfl),?_⟩)
      rfl
   by_cases hle:R1≤R2
   · rw [if_pos hle];exact key false (by simpa using hle)
   · rw [if_neg hle];exact key true (by simpa using hle)
 · rw [if_pos (by simp [hs])] at HO
   have HR:=hide (fun W=>wsreads_any hk hpb hs (field_front hfk hs) W)
   have hm:=fun (n:Nat) (w:World)=>(meth_s k n w).2.2.2
   simp only [mReads,theName] at hm
   generalize readsK k p=R at *
   obtain ⟨R1,R2⟩:=R
   generalize s.home=home at *
   clear hL he hk hpb hfk hs hF
   obtain ⟨p1,p2⟩:=p
   dsimp only at *
   have key:∀ (b:Bool),decide (R2<R1)=b→Gives Tryz.prog 19 #[.agg #[.slice a n c,.int .i64 home,.slice sa sn sc,.slice ca cn cc],.agg (offA o),.agg #[.int .i64 (p1),.int .i64 (p2)]] w (if b=true then (.tuple #[.agg #[.int .i64 (0),.int .i64 (0)],.bool false]) else (.tuple #[.agg #[.int .i64 (R1),.int .i64 (R2)],.bool true])):=fun b hb=>by
    cases b
    all_goals
     (unfold Gives;go_enter Tryz.func19,Tryz.ntmps19)
     go_wp2_with fail
     go_at_call 18
     refine forgetK (fun V=>Up w V∧Box V w.heap.size #[.slice a n c,.int .i64 home,.slice sa sn sc,.slice ca cn cc] 29∧Box V (w.heap.size+1) (offA o) 50∧Box V (w.heap.size+1+1) #[.int .i64 (p1),.int .i64 (p2)] 48∧Box V (w.heap.size+1+1+1) #[.int .i64 (0),.int .i64 (0)] 31) ⟨Up.go,Box.go,Box.go,Box.go,Box.go⟩ ?_
     rintro V ⟨hu,bs,bo,bp,bz⟩
     have HB:=hide (And.intro hu (And.intro bs (And.intro bo (And.intro bp bz))))
     clear hu bs bo bp bz
     refine (HF.out _ HB.out.1).mono ?_
     intro pf
     obtain ⟨s0,s1,s2,s3⟩:=(HB.out.2.1).c4
     have ls:=(HB.out.2.1).lt
     obtain ⟨f0,f1,f2,f3,f4,f5,f6,f7,f8,f9,f10⟩:=(HB.out.2.2.1).c11
     have lf:=(HB.out.2.2.1).lt
     obtain ⟨g0,g1⟩:=(HB.out.2.2.2.1).c2
     have lg:=(HB.out.2.2.2.1).lt
     obtain ⟨z0,z1⟩:=(HB.out.2.2.2.2).c2
     have lz:=(HB.out.2.2.2.2).lt
     obtain ⟨fz0,fz1⟩:=(HB.out.2.2.2.2).f2
     go_wp2_with fail
     refine forgetW (fun V=>Up w V∧Box V w.heap.size #[.slice a n c,.int .i64 home,.slice sa sn sc,.slice ca cn cc] 29∧Box V (w.heap.size+1) (offA o) 50∧Box V (w.heap.size+1+1) #[.int .i64 (p1),.int .i64 (p2)] 48∧Box V (w.heap.size+1+1+1) #[.int .i64 (0),.int .i64 (0)] 31) ⟨(Up.viz HB.out.1),(Box.viz HB.out.2.1),(Box.viz HB.out.2.2.1),(Box.viz HB.out.2.2.2.1),(Box.viz HB.out.2.2.2.2)⟩ ?_
     clear HB s0 s1 s2 s3 ls f0 f1 f2 f3 f4 f5 f6 f7 f8 f9 f10 lf g0 g1 lg z0 z1 lz fz0 fz1
     rintro V ⟨hu,bs,bo,bp,bz⟩
     have HB:=hide (And.intro hu (And.intro bs (And.intro bo (And.intro bp bz))))
     clear hu bs bo bp bz
     obtain ⟨s0,s1,s2,s3⟩:=(HB.out.2.1).c4
     have ls:=(HB.out.2.1).lt
     obtain ⟨f0,f1,f2,f3,f4,f5,f6,f7,f8,f9,f10⟩:=(HB.out.2.2.1).c11
     have lf:=(HB.out.2.2.1).lt
     obtain ⟨g0,g1⟩:=(HB.out.2.2.2.1).c2
     have lg:=(HB.out.2.2.2.1).lt
     obtain ⟨z0,z1⟩:=(HB.out.2.2.2.2).c2
     have lz:=(HB.out.2.2.2.2).lt
     obtain ⟨fz0,fz1⟩:=(HB.out.2.2.2.2).f2
     refine wp_region_float (al:=[(5,8,#[.int .i64 (0),.int .i64 (0)],31)]) (mv:=fun _=>false) [6] [0,1,2,3,4] (by kernel_rfl) (by kernel_rfl) (makes1 ⟨_,rfl,rfl,fun _=>rfl,fun _ _=>by simp [go_sem]⟩) (cls_ext _) (by first|exact drew_in2 _ _|exact drew_in _) (Nat.le_refl _) ?_
     simp only [withOps,List.filterMap_cons,List.filterMap_nil,List.getElem?_toArray,List.getElem?_cons_zero,List.getElem?_cons_succ,Option.map_some]
     (repeat (first|(apply walkF_pure (base:=fun p:Ext=>ext _ p) rfl rfl rfl (by kernel_rfl);· (intro px K hK;go_big_quiet_op;first|exact hK|(apply Exists.intro;refine ⟨fun _=>?_,?_⟩;(· ((first|(go_at_call 50;with_reducible exact Gives.inFloat (HO.out _ (Up.ext HB.out.1 _)))|(go_at_call 299;with_reducible exact Gives.inFloat (HR.out _)))));exact hK)))|(apply walkF_skip rfl;simp only [Act.put,List.setIfInBounds_toArray,List.set_cons_zero,List.set_cons_succ])))
     refine walkF_nil (end1 (fun Q U hq hU bq=>?_))
     simp only [Act.put,List.setIfInBounds_toArray,List.set_cons_zero,List.set_cons_succ]
     (try simp only [List.filterMap_cons,List.filterMap_nil,List.getElem?_toArray,List.getElem?_cons_zero,List.getElem?_cons_succ])
     have hU1:Up V U:=hU
     have HQ:=hide (And.intro (HB.out.1.trans hU1) (And.intro (HB.out.2.2.2.2.up hU1) bq))
     have hlz:=HB.out.2.2.2.2.lt
     clear s0 s1 s2 s3 ls f0 f1 f2 f3 f4 f5 f6 f7 f8 f9 f10 lf g0 g1 lg z0 z1 lz fz0 fz1
     obtain ⟨q0,q1⟩:=bq.c2
     have lq:=bq.lt
     obtain ⟨fq0,fq1⟩:=bq.f2
     obtain ⟨z0,z1⟩:=HQ.out.2.1.c2
     have lz:=HQ.out.2.1.lt
     obtain ⟨fz0,fz1⟩:=HQ.out.2.1.f2
     have hwQ:w.heap.size≤Q:=by omega
     have n1:w.heap.size+1+1+1≠Q:=by omega
     have n2:Q≠w.heap.size+1+1+1:=by omega
     clear hU hU1 bq HB
     go_wp2_with fail
    · refine forgetW (fun WF=>Up w WF∧Box WF (w.heap.size+1+1+1) #[.int .i64 (R1),.int .i64 (R2)] 31) ⟨(Up.viz HQ.out.1),?_⟩ ?_
      · exact (by (repeat (first|with_reducible apply Box.ext|with_reducible apply Box.alloc|with_reducible apply Box.drew));exact ((((HQ.out.2.1.other (b':=Q) n1 0 (.int .i64 R1)).other (b':=Q) n1 1 (.int .i64 R2)).set 0 (.int .i64 R1)).set 1 (.int .i64 R2)))
      rintro WF ⟨huF,hbF⟩
      obtain ⟨w0,w1⟩:=hbF.c2
      (refine bodyPost_give huF rfl ⟨_,(by simp [results,Tryz.results19,go_sem,w0,w1];rfl),?_⟩)
      rfl
    · refine forgetW (fun WF=>Up w WF∧Box WF (w.heap.size+1+1+1) #[.int .i64 (0),.int .i64 (0)] 31) ⟨(Up.viz HQ.out.1),?_⟩ ?_
      · exact (by (repeat (first|with_reducible apply Box.ext|with_reducible apply Box.alloc|with_reducible apply Box.drew));exact ((((HQ.out.2.1.other (b':=Q) n1 0 (.int .i64 R1)).other (b':=Q) n1 1 (.int .i64 R2)).set 0 (.int .i64 0)).set 1 (.int .i64 0)))
      rintro WF ⟨huF,hbF⟩
      obtain ⟨w0,w1⟩:=hbF.c2
      (refine bodyPost_give huF rfl ⟨_,(by simp [results,Tryz.results19,go_sem,w0,w1];rfl),?_⟩)
      rfl
   by_cases hle:R1≤R2
   · rw [if_pos hle];exact key false (by simpa using hle)
   · rw [if_neg hle];exact key true (by simpa using hle)
def shownS:SkyD:=⟨[⟨0,0,[(0,0)]⟩],0,[(1,0,0)],[(1,0,0)]⟩
def radarO:OffD:=⟨2,1,0,0,0,0,2,100,0,3,true⟩
def scopeO:OffD:=⟨1,1,1,0,1,0,1000,1000,500000,1,false⟩
theorem Vecs.ofB {K:Nat→Prop} {w:World} {B n:Nat} {T:TypeId} {C:Array Value} {l:List (Int×Int)} (hb:Box w B C T) (hK:K B) (hn:n=l.length) (hm:l.length≤1000000)
 (hC:∀ (i:Nat) (p:Int×Int),l[i]?=some p→C[i*2]?=some (.int .i64 p.1)∧C[i*2+1]?=some (.int .i64 p.2)∧I64 p.1∧I64 p.2) (c:Nat):Vecs K w (.slice (some ⟨B,0,none⟩) n c) l:=by
 subst hn
 refine ⟨_,_,rfl,by omega,fun _=>⟨B,0,rfl,hK,hb.lt,fun i x hx=>?_⟩⟩
 obtain ⟨h0,h1,h2,h3⟩:=hC i x hx
 refine ⟨_,⟨rfl,h2,h3⟩,rfl,fun j u hu=>?_⟩
 match j,hu with
 | 0,hu=>cases hu;exact hb.cell _ (by simpa using h0)
 | 1,hu=>cases hu;exact hb.cell _ (by simpa using h1)
theorem Tris.ofB {K:Nat→Prop} {w:World} {B n:Nat} {T:TypeId} {C:Array Value} {l:List (Int×Int×Int)} (hb:Box w B C T) (hK:K B) (hn:n=l.length) (hm:l.length≤1000000)
 (hC:∀ (i:Nat) (p:Int×Int×Int),l[i]?=some p→C[i*3]?=some (.int .i64 p.1)∧C[i*3+1]?=some (.int .i64 p.2.1)∧C[i*3+2]?=some (.int .i64 p.2.2)∧I64 p.1∧I64 p.2.1∧I64 p.2.2) (c:Nat):Tris K w (.slice (some ⟨B,0,none⟩) n c) l:=by
 subst hn
 refine ⟨_,_,rfl,by omega,fun _=>⟨B,0,rfl,hK,hb.lt,fun i x hx=>?_⟩⟩
 obtain ⟨h0,h1,h2,h3⟩:=hC i x hx
 refine ⟨_,⟨rfl,h3⟩,rfl,fun j u hu=>?_⟩
 match j,hu with
 | 0,hu=>cases hu;exact hb.cell _ (by simpa using h0)
 | 1,hu=>cases hu;exact hb.cell _ (by simpa using h1)
 | 2,hu=>cases hu;exact hb.cell _ (by simpa using h2)
theorem Bods.ofB {K:Nat→Prop} {w:World} {B n:Nat} {T:TypeId} {C:Array Value} {l:List Bod} (hb:Box w B C T) (hK:K B) (hn:n=l.length) (hm:l.length≤1000000)
 (hC:∀ (i:Nat) (p:Bod),l[i]?=some p→∃ tv,C[i*3]?=some (.int .i64 p.mu)∧C[i*3+1]?=some (.int .i64 p.radius)∧C[i*3+2]?=some tv∧I64 p.mu∧I64 p.radius∧Vecs K w tv p.track) (c:Nat):Bods K w (.slice (some ⟨B,0,none⟩) n c) l:=by
 subst hn
 refine ⟨_,_,rfl,by omega,fun _=>⟨B,0,rfl,hK,hb.lt,fun i x hx=>?_⟩⟩
 obtain ⟨tv,h0,h1,h2,h3,h4,h5⟩:=hC i x hx
 refine ⟨_,⟨tv,rfl,h3,h4,h5⟩,rfl,fun j u hu=>?_⟩
 match j,hu with
 | 0,hu=>cases hu;exact hb.cell _ (by simpa using h0)
 | 1,hu=>cases hu;exact hb.cell _ (by simpa using h1)
 | 2,hu=>cases hu;exact hb.cell _ (by simpa using h2)
theorem shown6_any (w:World):Calls Tryz.prog 15 #[] w fun e W=>∃ (a:Option Addr) (n c:Nat) (sa:Option Addr) (sn sc:Nat) (ca:Option Addr) (cn cc:Nat) (p:Ext),
 e=.returned (.agg #[.slice a n c,.int .i64 0,.slice sa sn sc,.slice ca cn cc])∧SkyL (fun b=>w.heap.size≤b) W a n c sa sn sc ca cn cc shownS∧W=ext w p:=by
 go_enter Tryz.func15,Tryz.ntmps15
 go_wp2
 refine forgetW (fun W=>Up w W∧Box W w.heap.size #[.slice (some ⟨w.heap.size+1+1,0,none⟩) 1 1,.int .i64 0,.slice (some ⟨w.heap.size+1+1+1,0,none⟩) 1 1,.slice (some ⟨w.heap.size+1+1+1+1,0,none⟩) 1 1] 29∧Box W (w.heap.size+1) #[.int .i64 (0),.int .i64 (0)] 48 ∧
  Box W (w.heap.size+1+1) #[.int .i64 0,.int .i64 0,.slice (some ⟨w.heap.size+1,0,none⟩) 1 1] 110∧Box W (w.heap.size+1+1+1) #[.int .i64 (1),.int .i64 (0),.int .i64 (0)] 112∧Box W (w.heap.size+1+1+1+1) #[.int .i64 (1),.int .i64 (0),.int .i64 (0)] 114) ⟨Up.go,Box.go,Box.go,Box.go,Box.go,Box.go⟩ ?_
 rintro W ⟨⟨p,hp⟩,b0,b1,b2,b3,b4⟩
 obtain ⟨c0,c1,c2,c3⟩:=b0.c4
 refine bodyPost_ret (v:=.agg #[.slice (some ⟨w.heap.size+1+1,0,none⟩) 1 1,.int .i64 0,.slice (some ⟨w.heap.size+1+1+1,0,none⟩) 1 1,.slice (some ⟨w.heap.size+1+1+1+1,0,none⟩) 1 1]) (by simp [results,Tryz.results15,go_sem,c0,c1,c2,c3]) rfl ⟨_,_,_,_,_,_,_,_,_,p,rfl,?_,hp⟩
 have i0:I64 0:=⟨by decide,by decide⟩
 have i1:I64 1:=⟨by decide,by decide⟩
 have v1:Vecs (fun b=>w.heap.size≤b) W (.slice (some ⟨w.heap.size+1,0,none⟩) 1 1) [(0,0)]:=Vecs.ofB (K:=fun b=>w.heap.size≤b) (l:=[(0,0)]) b1 (by show _≤_;omega) rfl (by decide) (fun i q hq=>by
  match i,hq with
  | 0,hq=>cases hq;exact ⟨rfl,rfl,i0,i0⟩) 1
 exact ⟨Bods.ofB (K:=fun b=>w.heap.size≤b) (l:=[⟨0,0,[(0,0)]⟩]) b2 (by show _≤_;omega) rfl (by decide) (fun i q hq=>by
  match i,hq with
  | 0,hq=>cases hq;exact ⟨_,rfl,rfl,rfl,i0,i0,v1⟩) 1,i0,
  Tris.ofB (K:=fun b=>w.heap.size≤b) (l:=[(1,0,0)]) b3 (by show _≤_;omega) rfl (by decide) (fun i q hq=>by
   match i,hq with
   | 0,hq=>cases hq;exact ⟨rfl,rfl,rfl,i1,i0,i0⟩) 1,
  Tris.ofB (K:=fun b=>w.heap.size≤b) (l:=[(1,0,0)]) b4 (by show _≤_;omega) rfl (by decide) (fun i q hq=>by
   match i,hq with
   | 0,hq=>cases hq;exact ⟨rfl,rfl,rfl,i1,i0,i0⟩) 1⟩
theorem radar6_any (w:World):Gives Tryz.prog 16 #[] w (.agg (offA radarO)):=by
 (unfold Gives;go_enter Tryz.func16,Tryz.ntmps16)
 go_wp2
 all_goals (refine bodyPost_give Up.go rfl ⟨_,(by simp [results,Tryz.results16,go_sem];rfl),?_⟩)
 all_goals rfl
theorem scope6_any (w:World):Gives Tryz.prog 17 #[] w (.agg (offA scopeO)):=by
 (unfold Gives;go_enter Tryz.func17,Tryz.ntmps17)
 go_wp2
 all_goals (refine bodyPost_give Up.go rfl ⟨_,(by simp [results,Tryz.results17,go_sem];rfl),?_⟩)
 all_goals rfl
theorem awake6_view:viewV shownS scopeO (100,200,10,20)=((true,true,49000,201000),0):=by decide +kernel
theorem awake6_reads:readsV shownS radarO (60,80)=((98,102),true):=by decide +kernel
theorem awake6_any (w:World):Gives Tryz.prog 11 #[] w (.bool true):=by
 have H1:∀ (K:Nat→Prop) (W0 W:World) (a:Option Addr) (n c:Nat) (sa:Option Addr) (sn sc:Nat) (ca:Option Addr) (cn cc:Nat),SkyL K W0 a n c sa sn sc ca cn cc shownS→Up W0 W →
  Gives Tryz.prog 21 #[.agg #[.slice a n c,.int .i64 0,.slice sa sn sc,.slice ca cn cc],.agg (offA scopeO),.agg #[.int .i64 (100),.int .i64 (200),.int .i64 (10),.int .i64 (20)]] W (.tuple #[.agg #[.bool true,.bool true,.int .i64 49000,.int .i64 201000],.int .i64 0]):=fun K W0 W a n c sa sn sc ca cn cc h hu=>by
  have:=wView_any (h.up hu) scopeO (100,200,10,20)
  rw [awake6_view] at this
  exact this
 have H2:∀ (K:Nat→Prop) (W0 W:World) (a:Option Addr) (n c:Nat) (sa:Option Addr) (sn sc:Nat) (ca:Option Addr) (cn cc:Nat),SkyL K W0 a n c sa sn sc ca cn cc shownS→Up W0 W →
  Gives Tryz.prog 19 #[.agg #[.slice a n c,.int .i64 0,.slice sa sn sc,.slice ca cn cc],.agg (offA radarO),.agg #[.int .i64 (60),.int .i64 (80)]] W (.tuple #[.agg #[.int .i64 (98),.int .i64 (102)],.bool true]):=fun K W0 W a n c sa sn sc ca cn cc h hu=>by
  have:=wReads_any (h.up hu) radarO (60,80)
  rw [awake6_reads] at this
  exact this
 have K1:=hide H1
 have K2:=hide H2
 clear H1 H2
 (unfold Gives;go_enter Tryz.func11,Tryz.ntmps11)
 go_wp2_with (first | (go_at_call 15;refine (shown6_any _).mono ?_;rintro _ _ ⟨a,n,c,sa,sn,sc,ca,cn,cc,px,rfl,hb,rfl⟩) | (go_at_call 17;refine (scope6_any _).mono ?_;intro _) | (go_at_call 16;refine (radar6_any _).mono ?_;intro _) | (go_at_call 20;refine (xarea6_any _ _ _ _ _).mono ?_;intro _) | (go_at_call 21;refine (K1.out _ _ _ _ _ _ _ _ _ _ _ _ (by assumption) Up.go).mono ?_;intro _) | (go_at_call 19;refine (K2.out _ _ _ _ _ _ _ _ _ _ _ _ (by assumption) Up.go).mono ?_;intro _))
 go_ret
 exact ⟨rfl,Up.go⟩
end Go.Proofs.YteafglginnonnaaGreat
