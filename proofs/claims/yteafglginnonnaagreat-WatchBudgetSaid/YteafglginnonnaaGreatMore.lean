/- Several texts in one. -/
import Derived.Test.YteafglginnonnaaGreatRootR
import Derived.Test.YteafglginnonnaaGreatSkyR
import Derived.Test.YteafglginnonnaaGreatFRefO
import Derived.Test.YteafglginnonnaaGreatFRefS
import Derived.Test.YteafglginnonnaaGreatForceE
import Derived.Test.YteafglginnonnaaGreatPush
/- Reference bolideref04: states, boxes, sets. Conditions: what lies in memory. -/
set_option linter.unusedVariables false
set_option linter.unusedSimpArgs false
namespace Go.Proofs.YteafglginnonnaaGreat
open Go.RowKit Go.Shelf
set_option maxRecDepth 100000 in
set_option maxHeartbeats 4000000 in
theorem qguess_any (x y u v:Int) (w:World):Gives Tryz.prog 194 #[.agg #[.int .i64 (x),.int .i64 (y),.int .i64 (u),.int .i64 (v)]] w (.bool (decide (stateE x y u v=0))):=by
 have H1:=hide (fun W=>snear_any x y W)
 have H3:=hide (fun W=>sbetween_any u (-1048576) 1048576 W)
 have H4:=hide (fun W=>sbetween_any v (-1048576) 1048576 W)
 have e:decide (stateE x y u v=0)=(nearV 33554432 (x,y)&&(withinB u (-1048576) 1048576&&withinB v (-1048576) 1048576)):=by
  unfold stateE nearV
  dsimp only
  cases withinB x (-33554432) 33554432 <;> cases withinB y (-33554432) 33554432 <;> cases withinB u (-1048576) 1048576 <;> cases withinB v (-1048576) 1048576 <;> rfl
 rw [e]
 clear e
 generalize nearV 33554432 (x,y)=A at *
 generalize withinB u (-1048576) 1048576=C at *
 generalize withinB v (-1048576) 1048576=D at *
 cases A <;> cases C <;> cases D
 all_goals
  (unfold Gives;go_enter Tryz.func194,Tryz.ntmps194)
  go_wp2_with (first|(go_at_call 117;(with_reducible refine (H1.out _).mono ?_);intro _)|(go_at_call 126;(with_reducible refine (H3.out _).mono ?_);intro _)|(go_at_call 126;(with_reducible refine (H4.out _).mono ?_);intro _))
  go_ret
  exact ⟨rfl,(by repeat (first|with_reducible (first|exact Up.refl _|apply Up.plus)|apply Up.ext|apply Up.alloc|apply Up.drew|refine Up.setCell ?_ (by simp;try omega) _))⟩
set_option maxRecDepth 100000 in
set_option maxHeartbeats 4000000 in
theorem qstate_any (x y u v:Int) (w:World):Gives Tryz.prog 165 #[.agg #[.int .i64 (x),.int .i64 (y),.int .i64 (u),.int .i64 (v)]] w (.int .i64 (stateE x y u v)):=by
 have HG:=hide (fun W=>qguess_any x y u v W)
 rcases stateE_two x y u v with h | h
 · rw [h] at HG ⊢
   rw [show decide ((0:Int)=0)=true from rfl] at HG
   (unfold Gives;go_enter Tryz.func165,Tryz.ntmps165)
   go_wp2_with (go_at_call 194;(with_reducible refine (HG.out _).mono ?_);intro _)
   go_ret
   exact ⟨rfl,(by repeat (first|with_reducible (first|exact Up.refl _|apply Up.plus)|apply Up.ext|apply Up.alloc|apply Up.drew|refine Up.setCell ?_ (by simp;try omega) _))⟩
 · rw [h] at HG ⊢
   rw [show decide ((2:Int)=0)=false from rfl] at HG
   (unfold Gives;go_enter Tryz.func165,Tryz.ntmps165)
   go_wp2_with (go_at_call 194;(with_reducible refine (HG.out _).mono ?_);intro _)
   go_ret
   exact ⟨rfl,(by repeat (first|with_reducible (first|exact Up.refl _|apply Up.plus)|apply Up.ext|apply Up.alloc|apply Up.drew|refine Up.setCell ?_ (by simp;try omega) _))⟩
set_option maxRecDepth 100000 in
set_option maxHeartbeats 4000000 in
theorem qlow_any (x0 x1 y0 y1 u0 u1 v0 v1:Int) (w:World):Gives Tryz.prog 166 #[.agg #[.int .i64 (x0),.int .i64 (x1),.int .i64 (y0),.int .i64 (y1),.int .i64 (u0),.int .i64 (u1),.int .i64 (v0),.int .i64 (v1)]] w (.agg #[.int .i64 (x0),.int .i64 (y0),.int .i64 (u0),.int .i64 (v0)]):=by
 (unfold Gives;go_enter Tryz.func166,Tryz.ntmps166)
 go_wp2
 all_goals (refine bodyPost_give (by repeat (first|with_reducible (first|exact Up.refl _|apply Up.plus)|apply Up.ext|apply Up.alloc|apply Up.drew|refine Up.setCell ?_ (by simp;try omega) _)) rfl ⟨_,(by simp [results,Tryz.results166,go_sem];rfl),?_⟩)
 all_goals rfl
set_option maxRecDepth 100000 in
set_option maxHeartbeats 4000000 in
theorem qhigh_any (x0 x1 y0 y1 u0 u1 v0 v1:Int) (w:World):Gives Tryz.prog 167 #[.agg #[.int .i64 (x0),.int .i64 (x1),.int .i64 (y0),.int .i64 (y1),.int .i64 (u0),.int .i64 (u1),.int .i64 (v0),.int .i64 (v1)]] w (.agg #[.int .i64 (x1),.int .i64 (y1),.int .i64 (u1),.int .i64 (v1)]):=by
 (unfold Gives;go_enter Tryz.func167,Tryz.ntmps167)
 go_wp2
 all_goals (refine bodyPost_give (by repeat (first|with_reducible (first|exact Up.refl _|apply Up.plus)|apply Up.ext|apply Up.alloc|apply Up.drew|refine Up.setCell ?_ (by simp;try omega) _)) rfl ⟨_,(by simp [results,Tryz.results167,go_sem];rfl),?_⟩)
 all_goals rfl
set_option maxRecDepth 100000 in
set_option maxHeartbeats 4000000 in
theorem qfull_any (b:BoxD) (w:World):Gives Tryz.prog 164 #[.agg (boxA b)] w (.bool (fullB b)):=by
 obtain ⟨x0,x1,y0,y1,u0,u1,v0,v1⟩:=b
 unfold fullB boxA
 dsimp only
 by_cases h1:x0≤x1
 rotate_left
 · have d1:decide (x0≤x1)=false:=decide_eq_false h1
   rw [d1]
   (unfold Gives;go_enter Tryz.func164,Tryz.ntmps164)
   go_wp2
   go_ret
   exact ⟨rfl,(by repeat (first|with_reducible (first|exact Up.refl _|apply Up.plus)|apply Up.ext|apply Up.alloc|apply Up.drew|refine Up.setCell ?_ (by simp;try omega) _))⟩
 have d1:decide (x0≤x1)=true:=decide_eq_true h1
 by_cases h2:y0≤y1
 rotate_left
 · have d2:decide (y0≤y1)=false:=decide_eq_false h2
   rw [d1,d2]
   (unfold Gives;go_enter Tryz.func164,Tryz.ntmps164)
   go_wp2
   go_ret
   exact ⟨rfl,(by repeat (first|with_reducible (first|exact Up.refl _|apply Up.plus)|apply Up.ext|apply Up.alloc|apply Up.drew|refine Up.setCell ?_ (by simp;try omega) _))⟩
 have d2:decide (y0≤y1)=true:=decide_eq_true h2
 by_cases h3:u0≤u1
 rotate_left
 · have d3:decide (u0≤u1)=false:=decide_eq_false h3
   rw [d1,d2,d3]
   (unfold Gives;go_enter Tryz.func164,Tryz.ntmps164)
   go_wp2
   go_ret
   exact ⟨rfl,(by repeat (first|with_reducible (first|exact Up.refl _|apply Up.plus)|apply Up.ext|apply Up.alloc|apply Up.drew|refine Up.setCell ?_ (by simp;try omega) _))⟩
 have d3:decide (u0≤u1)=true:=decide_eq_true h3
 by_cases h4:v0≤v1
 · have d4:decide (v0≤v1)=true:=decide_eq_true h4
   rw [d1,d2,d3,d4]
   (unfold Gives;go_enter Tryz.func164,Tryz.ntmps164)
   go_wp2
   go_ret
   exact ⟨rfl,(by repeat (first|with_reducible (first|exact Up.refl _|apply Up.plus)|apply Up.ext|apply Up.alloc|apply Up.drew|refine Up.setCell ?_ (by simp;try omega) _))⟩
 · have d4:decide (v0≤v1)=false:=decide_eq_false h4
   rw [d1,d2,d3,d4]
   (unfold Gives;go_enter Tryz.func164,Tryz.ntmps164)
   go_wp2
   go_ret
   exact ⟨rfl,(by repeat (first|with_reducible (first|exact Up.refl _|apply Up.plus)|apply Up.ext|apply Up.alloc|apply Up.drew|refine Up.setCell ?_ (by simp;try omega) _))⟩
set_option maxRecDepth 100000 in
set_option maxHeartbeats 4000000 in
theorem qbox_any (b:BoxD) (w:World):Gives Tryz.prog 122 #[.agg (boxA b)] w (.int .i64 (boxE b)):=by
 have HF:=hide (fun W=>qfull_any b W)
 obtain ⟨x0,x1,y0,y1,u0,u1,v0,v1⟩:=b
 have HL:=hide (fun W=>qlow_any x0 x1 y0 y1 u0 u1 v0 v1 W)
 have HH:=hide (fun W=>qhigh_any x0 x1 y0 y1 u0 u1 v0 v1 W)
 have HS1:=hide (fun W=>qstate_any x0 y0 u0 v0 W)
 have HS2:=hide (fun W=>qstate_any x1 y1 u1 v1 W)
 have s1:=stateE_two x0 y0 u0 v0
 have s2:=stateE_two x1 y1 u1 v1
 unfold boxE boxA at *
 dsimp only at *
 generalize fullB ⟨x0,x1,y0,y1,u0,u1,v0,v1⟩=F at *
 generalize stateE x0 y0 u0 v0=L at *
 generalize stateE x1 y1 u1 v1=M at *
 cases F
 · rw [if_neg (by simp)]
   clear s1 s2
   (unfold Gives;go_enter Tryz.func122,Tryz.ntmps122)
   go_wp2_with (go_at_call 164;(with_reducible refine (HF.out _).mono ?_);intro _)
   go_ret
   exact ⟨rfl,(by repeat (first|with_reducible (first|exact Up.refl _|apply Up.plus)|apply Up.ext|apply Up.alloc|apply Up.drew|refine Up.setCell ?_ (by simp;try omega) _))⟩
 rw [if_pos rfl]
 rcases s1 with rfl | rfl
 rotate_left
 · rw [if_neg (by decide)]
   clear s2
   (unfold Gives;go_enter Tryz.func122,Tryz.ntmps122)
   go_wp2_with (first|(go_at_call 164;(with_reducible refine (HF.out _).mono ?_);intro _)|(go_at_call 166;(with_reducible refine (HL.out _).mono ?_);intro _)|(go_at_call 167;(with_reducible refine (HH.out _).mono ?_);intro _)|(go_at_call 165;(with_reducible refine (HS1.out _).mono ?_);intro _)|(go_at_call 165;(with_reducible refine (HS2.out _).mono ?_);intro _))
   go_ret
   exact ⟨rfl,(by repeat (first|with_reducible (first|exact Up.refl _|apply Up.plus)|apply Up.ext|apply Up.alloc|apply Up.drew|refine Up.setCell ?_ (by simp;try omega) _))⟩
 rw [if_pos rfl]
 rcases s2 with rfl | rfl
 · rw [if_pos rfl]
   (unfold Gives;go_enter Tryz.func122,Tryz.ntmps122)
   go_wp2_with (first|(go_at_call 164;(with_reducible refine (HF.out _).mono ?_);intro _)|(go_at_call 166;(with_reducible refine (HL.out _).mono ?_);intro _)|(go_at_call 167;(with_reducible refine (HH.out _).mono ?_);intro _)|(go_at_call 165;(with_reducible refine (HS1.out _).mono ?_);intro _)|(go_at_call 165;(with_reducible refine (HS2.out _).mono ?_);intro _))
   go_ret
   exact ⟨rfl,(by repeat (first|with_reducible (first|exact Up.refl _|apply Up.plus)|apply Up.ext|apply Up.alloc|apply Up.drew|refine Up.setCell ?_ (by simp;try omega) _))⟩
 · rw [if_neg (by decide)]
   (unfold Gives;go_enter Tryz.func122,Tryz.ntmps122)
   go_wp2_with (first|(go_at_call 164;(with_reducible refine (HF.out _).mono ?_);intro _)|(go_at_call 166;(with_reducible refine (HL.out _).mono ?_);intro _)|(go_at_call 167;(with_reducible refine (HH.out _).mono ?_);intro _)|(go_at_call 165;(with_reducible refine (HS1.out _).mono ?_);intro _)|(go_at_call 165;(with_reducible refine (HS2.out _).mono ?_);intro _))
   go_ret
   exact ⟨rfl,(by repeat (first|with_reducible (first|exact Up.refl _|apply Up.plus)|apply Up.ext|apply Up.alloc|apply Up.drew|refine Up.setCell ?_ (by simp;try omega) _))⟩
end Go.Proofs.YteafglginnonnaaGreat
/- Reference bolideref04: steps. Conditions: what lies in memory, valid boxes. -/
namespace Go.Proofs.YteafglginnonnaaGreat
open Go.RowKit Go.Shelf
end Go.Proofs.YteafglginnonnaaGreat
/- Reference bolideref04: the widest span of a box, its halves. Conditions: what lies in memory. -/
namespace Go.Proofs.YteafglginnonnaaGreat
open Go.RowKit Go.Shelf
theorem and_one_i64 (x:Int):bits BinOp.and IntKind.i64 x 1=x % 2:=by
 unfold bits
 dsimp only
 have h:(BitVec.ofInt IntKind.i64.bits x &&& BitVec.ofInt IntKind.i64.bits 1).toNat=(x % 2).toNat:=by
  rw [BitVec.toNat_and]
  have e1:(BitVec.ofInt IntKind.i64.bits 1).toNat=1:=by decide
  rw [e1,Nat.and_one_is_mod,BitVec.toNat_ofInt]
  show (x % (18446744073709551616:Nat)).toNat % 2=(x % 2).toNat
  omega
 rw [h,IntKind.wrap_i64]
 omega
def bestI (l:List Int):Nat→Nat
 | 0=>0
 | k+1=>if l.getD (bestI l k) 0<l.getD (k+1) 0 then k+1 else bestI l k
theorem bestI_le (l:List Int):∀ k,bestI l k≤k
 | 0=>Nat.le_refl _
 | k+1=>by
  have:=bestI_le l k
  unfold bestI
  split <;> omega
theorem bestI_max (l:List Int):∀ k i,i≤k→l.getD i 0≤l.getD (bestI l k) 0
 | 0,i,hi=>by
  obtain rfl:i=0:=by omega
  exact Int.le_refl _
 | k+1,i,hi=>by
  unfold bestI
  by_cases h:l.getD (bestI l k) 0<l.getD (k+1) 0
  · rw [if_pos h]
    rcases Nat.lt_or_ge i (k+1) with h1 | h1
    · exact Int.le_of_lt (Int.lt_of_le_of_lt (bestI_max l k i (by omega)) h)
    · rw [show i=k+1 by omega];exact Int.le_refl _
  · rw [if_neg h]
    rcases Nat.lt_or_ge i (k+1) with h1 | h1
    · exact bestI_max l k i (by omega)
    · rw [show i=k+1 by omega];omega
def widL (b:BoxD):List Int:=[b.x1 - b.x0,b.y1 - b.y0,b.u1 - b.u0,b.v1 - b.v0]
def widI (b:BoxD):Nat:=bestI (widL b) 3
def widN (b:BoxD):Int:=(widL b).getD (widI b) 0
def loL (b:BoxD):List Int:=[b.x0,b.y0,b.u0,b.v0]
def hiL (b:BoxD):List Int:=[b.x1,b.y1,b.u1,b.v1]
theorem widL_at (b:BoxD) (i:Nat) (hi:i<4):(widL b).getD i 0=(hiL b).getD i 0 - (loL b).getD i 0:=by
 match i,hi with
 | 0,_=>rfl
 | 1,_=>rfl
 | 2,_=>rfl
 | 3,_=>rfl
theorem box_lo (b:BoxD) (i:Nat) (hi:i<4):(boxA b)[i*2]?=some (.int .i64 ((loL b).getD i 0)):=by
 match i,hi with
 | 0,_=>rfl
 | 1,_=>rfl
 | 2,_=>rfl
 | 3,_=>rfl
theorem box_hi (b:BoxD) (i:Nat) (hi:i<4):(boxA b)[i*2+1]?=some (.int .i64 ((hiL b).getD i 0)):=by
 match i,hi with
 | 0,_=>rfl
 | 1,_=>rfl
 | 2,_=>rfl
 | 3,_=>rfl
structure BNum (b:BoxD):Prop where
 h:∀ i,i<4→(-1000000000000≤(loL b).getD i 0∧(loL b).getD i 0≤1000000000000) ∧ -1000000000000≤(hiL b).getD i 0∧(hiL b).getD i 0≤1000000000000
theorem BOk.num {b:BoxD} (h:BOk b):BNum b:=⟨fun i hi=>by
 have h1:=h.x
 have h2:=h.y
 have h3:=h.u
 have h4:=h.v
 unfold loL hiL
 match i,hi with
 | 0,_=>simp;omega
 | 1,_=>simp;omega
 | 2,_=>simp;omega
 | 3,_=>simp;omega⟩
set_option maxRecDepth 100000 in
set_option maxHeartbeats 8000000 in
theorem qwidest_any {b:BoxD} (hb:BNum b) (w:World):Gives Tryz.prog 123 #[.agg (boxA b)] w (.tuple #[.int .i64 (widI b),.int .i64 (widN b)]):=by
 have HB:=hide hb.h
 have HW:=hide (widL_at b)
 have hwn:widN b=(widL b).getD (widI b) 0:=rfl
 have hwi:widI b=bestI (widL b) 3:=rfl
 rw [hwn,hwi]
 have HLo:=hide (box_lo b)
 have HHi:=hide (box_hi b)
 have hbx:boxA b=#[.int .i64 (b.x0),.int .i64 (b.x1),.int .i64 (b.y0),.int .i64 (b.y1),.int .i64 (b.u0),.int .i64 (b.u1),.int .i64 (b.v0),.int .i64 (b.v1)]:=rfl
 have hbl:=fun k=>bestI_le (widL b) k
 have hst:∀ k,bestI (widL b) (k+1)=if (widL b).getD (bestI (widL b) k) 0<(widL b).getD (k+1) 0 then k+1 else bestI (widL b) k:=fun k=>rfl
 have hb0:bestI (widL b) 0=0:=rfl
 generalize bestI (widL b)=F at *
 obtain ⟨LL,hLL⟩:∃ f:Nat→Int,f=fun i=>(loL b).getD i 0:=⟨_,rfl⟩
 obtain ⟨HH,hHH⟩:∃ f:Nat→Int,f=fun i=>(hiL b).getD i 0:=⟨_,rfl⟩
 obtain ⟨WW,hWW⟩:∃ f:Nat→Int,f=fun i=>(widL b).getD i 0:=⟨_,rfl⟩
 have f1:∀ i,(loL b).getD i 0=LL i:=fun i=>by rw [hLL]
 have f2:∀ i,(hiL b).getD i 0=HH i:=fun i=>by rw [hHH]
 have f3:∀ i,(widL b).getD i 0=WW i:=fun i=>by rw [hWW]
 simp only [f1,f2,f3] at HB HW HLo HHi hst ⊢
 have HF:=hide (And.intro hbl (And.intro hst hb0))
 clear hb hwn hwi f1 f2 f3 hLL hHH hWW hbl hst hb0
 generalize boxA b=BA at *
 obtain ⟨X0,X1,X2,X3,X4,X5,X6,X7,rfl⟩:∃ X0 X1 X2 X3 X4 X5 X6 X7:Int,BA=#[.int .i64 (X0),.int .i64 (X1),.int .i64 (X2),.int .i64 (X3),.int .i64 (X4),.int .i64 (X5),.int .i64 (X6),.int .i64 (X7)]:=⟨_,_,_,_,_,_,_,_,hbx⟩
 clear hbx
 (unfold Gives;go_enter Tryz.func123,Tryz.ntmps123)
 go_wp2_with fail
 obtain ⟨q,hq⟩:∃ q,q=w.heap.size+1:=⟨_,rfl⟩
 rw [← hq]
 refine forgetW (fun U=>Up w U∧Box U q #[.int .i64 (X0),.int .i64 (X1),.int .i64 (X2),.int .i64 (X3),.int .i64 (X4),.int .i64 (X5),.int .i64 (X6),.int .i64 (X7)] 31) ⟨(by repeat (first|with_reducible (first|exact Up.refl _|apply Up.plus)|apply Up.ext|apply Up.alloc|apply Up.drew|refine Up.setCell ?_ (by simp;try omega) _)),by rw [hq];exact (by repeat (first|exact Box.mk rfl|(refine Box.mk ?_;simp;done)|apply Box.ext|apply Box.drew|apply Box.alloc|apply Box.two1|refine Box.other ?_ (by omega) _ _))⟩ ?_
 clear hq
 intro V0 h0
 have H0:=hide h0
 clear h0
 go_loopw [5,6] (fun s5 s6 wr=>∃ i:Nat,i≤3∧s6=.int .i64 ((i+1:Nat):Int)∧s5=.int .i64 (F i)∧Hid (Up w wr∧Box wr q #[.int .i64 (X0),.int .i64 (X1),.int .i64 (X2),.int .i64 (X3),.int .i64 (X4),.int .i64 (X5),.int .i64 (X6),.int .i64 (X7)] 31)) (fun _ s6 _=>4 - (intOf s6).toNat)
 case atStart=>exact ⟨0,by omega,rfl,by rw [HF.out.2.2];rfl,H0⟩
 case round =>
  obtain ⟨i,hi,rfl,rfl,HI⟩:=hrel
  clear H0
  have hfi:=HF.out.1 i
  have hq:=HI.out.2.lt
  have cj0:=HI.out.2.cell _ (HLo.out (F i) (by omega))
  have cj1:=HI.out.2.cell _ (HHi.out (F i) (by omega))
  have bj:=HB.out (F i) (by omega)
  have wj:=HW.out (F i) (by omega)
  by_cases hlt:i+1<4
  · have hib:decide (((i+1:Nat):Int)<4)=true:=by simp;omega
    have hin:decide (i+1<4)=true:=by simp;omega
    have hfb:decide (F i<4)=true:=by simp;omega
    have ci0:=HI.out.2.cell _ (HLo.out (i+1) hlt)
    have ci1:=HI.out.2.cell _ (HHi.out (i+1) hlt)
    have bi:=HB.out (i+1) hlt
    have wi:=HW.out (i+1) hlt
    have hs:=HF.out.2.1 i
    rw [wi,wj] at hs
    generalize LL (i+1)=li at *
    generalize HH (i+1)=hi' at *
    generalize LL (F i)=lj at *
    generalize HH (F i)=hj at *
    by_cases hg:hj - lj<hi' - li
    · have hgb:decide (hj - lj<hi' - li)=true:=decide_eq_true hg
      rw [if_pos hg] at hs
      have HS:=hide hs
      clear hs wi wj
      go_wp2_with fail
      ((first | with_reducible refine wp_region_ext2 (by kernel_rfl) (by kernel_rfl) ?_ | refine wp_region_ext (by kernel_rfl) (by kernel_rfl) ?_);(repeat (go_big_quiet_step (fail)));refine wpQuiet_nil ?_;intro _ hw';obtain ⟨_,hw''⟩:=hw';subst hw'')
      go_wp2_with fail
      go_roundw
      case rel=>exact ⟨i+1,by omega,by go_num,by rw [HS.out],hide ⟨HI.out.1.trans (by repeat (first|with_reducible (first|exact Up.refl _|apply Up.plus)|apply Up.ext|apply Up.alloc|apply Up.drew|refine Up.setCell ?_ (by simp;try omega) _)),HI.out.2.up (by repeat (first|with_reducible (first|exact Up.refl _|apply Up.plus)|apply Up.ext|apply Up.alloc|apply Up.drew|refine Up.setCell ?_ (by simp;try omega) _))⟩⟩
      case measure=>simp [intOf];omega
    · have hgb:decide (hj - lj<hi' - li)=false:=decide_eq_false hg
      rw [if_neg hg] at hs
      have HS:=hide hs
      clear hs wi wj
      go_wp2_with fail
      ((first | with_reducible refine wp_region_ext2 (by kernel_rfl) (by kernel_rfl) ?_ | refine wp_region_ext (by kernel_rfl) (by kernel_rfl) ?_);(repeat (go_big_quiet_step (fail)));refine wpQuiet_nil ?_;intro _ hw';obtain ⟨_,hw''⟩:=hw';subst hw'')
      go_wp2_with fail
      go_roundw
      case rel=>exact ⟨i+1,by omega,by go_num,by rw [HS.out],hide ⟨HI.out.1.trans (by repeat (first|with_reducible (first|exact Up.refl _|apply Up.plus)|apply Up.ext|apply Up.alloc|apply Up.drew|refine Up.setCell ?_ (by simp;try omega) _)),HI.out.2.up (by repeat (first|with_reducible (first|exact Up.refl _|apply Up.plus)|apply Up.ext|apply Up.alloc|apply Up.drew|refine Up.setCell ?_ (by simp;try omega) _))⟩⟩
      case measure=>simp [intOf];omega
  · have hib:decide (((i+1:Nat):Int)<4)=false:=by simp;omega
    have hin:decide (i+1<4)=false:=by simp;omega
    obtain rfl:i=3:=by omega
    have hfb:decide (F 3<4)=true:=by simp;omega
    have HWJ:=hide wj
    generalize LL (F 3)=lj at *
    generalize HH (F 3)=hj at *
    clear wj
    go_wp2_with fail
    ((first | with_reducible refine wp_region_ext2 (by kernel_rfl) (by kernel_rfl) ?_ | refine wp_region_ext (by kernel_rfl) (by kernel_rfl) ?_);(repeat (go_big_quiet_step (fail)));refine wpQuiet_nil ?_;intro _ hw';obtain ⟨_,hw''⟩:=hw';subst hw'')
    go_wp2_with fail
    refine bodyPost_give (HI.out.1.trans (by repeat (first|with_reducible (first|exact Up.refl _|apply Up.plus)|apply Up.ext|apply Up.alloc|apply Up.drew|refine Up.setCell ?_ (by simp;try omega) _))) rfl ⟨_,(by simp [results,Tryz.results123,go_sem];rfl),?_⟩
    rw [HWJ.out]
def cutB (b:BoxD) (i:Nat):BoxD×BoxD:=match i with
 | 0=>({ b with x1:=(b.x0+b.x1) / 2 },{ b with x0:=(b.x0+b.x1) / 2+1 })
 | 1=>({ b with y1:=(b.y0+b.y1) / 2 },{ b with y0:=(b.y0+b.y1) / 2+1 })
 | 2=>({ b with u1:=(b.u0+b.u1) / 2 },{ b with u0:=(b.u0+b.u1) / 2+1 })
 | _=>({ b with v1:=(b.v0+b.v1) / 2 },{ b with v0:=(b.v0+b.v1) / 2+1 })
def zeroBx:BoxD:=⟨0,0,0,0,0,0,0,0⟩
def splitV (b:BoxD):(BoxD×BoxD)×Bool:=if boxE b=0∧widN b≠0 then (cutB b (widI b),true) else ((zeroBx,zeroBx),false)
theorem widN_ge {b:BoxD} (h:BOk b):0≤widN b:=by
 have:=bestI_max (widL b) 3 0 (by omega)
 have h1:=h.x
 unfold widN widI
 have h2:(widL b).getD 0 0=b.x1 - b.x0:=rfl
 omega
theorem widI_lt (b:BoxD):widI b<4:=by
 have:=bestI_le (widL b) 3
 unfold widI
 omega
theorem cutB_ok {b:BoxD} (h:BOk b) {i:Nat} (hw:0<(widL b).getD i 0):BOk (cutB b i).1∧BOk (cutB b i).2:=by
 have h1:=h.x
 have h2:=h.y
 have h3:=h.u
 have h4:=h.v
 match i with
 | 0 =>
  have hw:0<b.x1 - b.x0:=hw
  rw [show cutB b 0=({ b with x1:=(b.x0+b.x1) / 2 },{ b with x0:=(b.x0+b.x1) / 2+1 }) from rfl]
  dsimp only
  refine ⟨⟨⟨?_,?_,?_⟩,h2,h3,h4⟩,⟨⟨?_,?_,?_⟩,h2,h3,h4⟩⟩ <;> (dsimp only;omega)
 | 1 =>
  have hw:0<b.y1 - b.y0:=hw
  rw [show cutB b 1=({ b with y1:=(b.y0+b.y1) / 2 },{ b with y0:=(b.y0+b.y1) / 2+1 }) from rfl]
  dsimp only
  refine ⟨⟨h1,⟨?_,?_,?_⟩,h3,h4⟩,⟨h1,⟨?_,?_,?_⟩,h3,h4⟩⟩ <;> (dsimp only;omega)
 | 2 =>
  have hw:0<b.u1 - b.u0:=hw
  rw [show cutB b 2=({ b with u1:=(b.u0+b.u1) / 2 },{ b with u0:=(b.u0+b.u1) / 2+1 }) from rfl]
  dsimp only
  refine ⟨⟨h1,h2,⟨?_,?_,?_⟩,h4⟩,⟨h1,h2,⟨?_,?_,?_⟩,h4⟩⟩ <;> (dsimp only;omega)
 | 3 =>
  have hw:0<b.v1 - b.v0:=hw
  rw [show cutB b 3=({ b with v1:=(b.v0+b.v1) / 2 },{ b with v0:=(b.v0+b.v1) / 2+1 }) from rfl]
  dsimp only
  refine ⟨⟨h1,h2,h3,⟨?_,?_,?_⟩⟩,⟨h1,h2,h3,⟨?_,?_,?_⟩⟩⟩ <;> (dsimp only;omega)
 | n+4 =>
  have hw:(0:Int)<0:=hw
  omega
theorem splitV_ok {b:BoxD} (h:(splitV b).2=true):BOk b∧BOk (splitV b).1.1∧BOk (splitV b).1.2:=by
 unfold splitV at h ⊢
 by_cases hc:boxE b=0∧widN b≠0
 · rw [if_pos hc]
   have hb:=(boxE_ok b).1 hc.1
   have:=widN_ge hb
   have h2:=hc.2
   exact ⟨hb,cutB_ok hb (by unfold widN at this h2;omega)⟩
 · rw [if_neg hc] at h;cases h
set_option maxRecDepth 100000 in
set_option maxHeartbeats 8000000 in
theorem qhalf_any {a b:Int} (ha:-1000000000000≤a∧a≤1000000000000) (hb:-1000000000000≤b∧b≤1000000000000) (w:World):Gives Tryz.prog 195 #[.int .i64 a,.int .i64 b] w (.int .i64 ((a+b) / 2)):=by
 have e1:=and_one_i64 (a+b)
 have e2:(a+b - (a+b) % 2).tdiv 2=(a+b) / 2:=by
  rw [show a+b - (a+b) % 2=2*((a+b) / 2) by omega,Int.mul_tdiv_cancel_left _ (by omega)]
 have m0:0≤(a+b) % 2∧(a+b) % 2≤1:=by omega
 have h0:-1000000000000≤(a+b) / 2∧(a+b) / 2≤1000000000000:=by omega
 generalize (a+b) % 2=m at *
 generalize (a+b) / 2=h at *
 (unfold Gives;go_enter Tryz.func195,Tryz.ntmps195)
 go_wp2
 go_ret
 exact ⟨rfl,(by repeat (first|with_reducible (first|exact Up.refl _|apply Up.plus)|apply Up.ext|apply Up.alloc|apply Up.drew|refine Up.setCell ?_ (by simp;try omega) _))⟩
set_option maxRecDepth 100000 in
set_option maxHeartbeats 8000000 in
theorem qcut_any {a b:Int} (ha:-1000000000000≤a∧a≤1000000000000) (hb:-1000000000000≤b∧b≤1000000000000) (w:World):Gives Tryz.prog 168 #[.agg #[.int .i64 (a),.int .i64 (b)]] w (.tuple #[.agg #[.int .i64 (a),.int .i64 (((a+b) / 2))],.agg #[.int .i64 (((a+b) / 2+1)),.int .i64 (b)]]):=by
 have KH:=hide (fun W=>qhalf_any ha hb W)
 have h0:-1000000000000≤(a+b) / 2∧(a+b) / 2≤1000000000000:=by omega
 generalize (a+b) / 2=h at *
 (unfold Gives;go_enter Tryz.func168,Tryz.ntmps168)
 go_wp2_with (go_at_call 195;refine (KH.out _).mono ?_;intro _)
 refine forgetW (fun U=>Up w U∧Box U w.heap.size #[.int .i64 (a),.int .i64 (b)] 31∧Box U (w.heap.size+1) #[.int .i64 (0),.int .i64 (0)] 31∧Box U (w.heap.size+1+1) #[.int .i64 (0),.int .i64 (0)] 31) ⟨(by repeat (first|with_reducible (first|exact Up.refl _|apply Up.plus)|apply Up.ext|apply Up.alloc|apply Up.drew|refine Up.setCell ?_ (by simp;try omega) _)),(by repeat (first|exact Box.mk rfl|(refine Box.mk ?_;simp;done)|apply Box.ext|apply Box.drew|apply Box.alloc|apply Box.two1|refine Box.other ?_ (by omega) _ _)),(by repeat (first|exact Box.mk rfl|(refine Box.mk ?_;simp;done)|apply Box.ext|apply Box.drew|apply Box.alloc|apply Box.two1|refine Box.other ?_ (by omega) _ _)),(by repeat (first|exact Box.mk rfl|(refine Box.mk ?_;simp;done)|apply Box.ext|apply Box.drew|apply Box.alloc|apply Box.two1|refine Box.other ?_ (by omega) _ _))⟩ ?_
 intro V0 h1
 have H0:=hide h1
 clear h1
 have a0:=H0.out.2.1.cell 0 rfl
 have a1:=H0.out.2.1.cell 1 rfl
 have la:=H0.out.2.1.lt
 have b1:=H0.out.2.2.1
 have b2:=H0.out.2.2.2
 have HE:=H0
 have x0:=(b1).cell 0 rfl
 have x1:=(b1).cell 1 rfl
 have lx:=(b1).lt
 have fzx0:=(b1).frozen 0
 have fzx1:=(b1).frozen 1
 have y0:=(b2).cell 0 rfl
 have y1:=(b2).cell 1 rfl
 have ly:=(b2).lt
 have fzy0:=(b2).frozen 0
 have fzy1:=(b2).frozen 1
 clear b1 b2
 have hS0:=hide (show Box V0.drew w.heap.size #[.int .i64 (a),.int .i64 (b)] 31 from H0.out.2.1.drew)
 refine wp_region_L (fun W'=>Box W' w.heap.size #[.int .i64 (a),.int .i64 (b)] 31) 10 (by kernel_rfl) ?_
 refine anyL_take 0 (v:=(.pointer (some ⟨w.heap.size,0,none⟩))) rfl (by kernel_rfl) (fun _ _ _ h=>h) (.inl ⟨rfl,fun W' hW'=>by simp [go_sem]⟩) hS0.out ?_
 simp only [Act.put,List.setIfInBounds_toArray,List.set_cons_zero,List.set_cons_succ]
 refine anyL_take 1 (v:=(.int .i64 a)) rfl (by kernel_rfl) (fun _ _ _ h=>h) (.inl ⟨rfl,fun W' hW'=>by have e:=Box.cell hW' 0 rfl;simp [go_sem,e]⟩) hS0.out ?_
 simp only [Act.put,List.setIfInBounds_toArray,List.set_cons_zero,List.set_cons_succ]
 refine anyL_take 2 (v:=(.int .i64 h)) rfl (by kernel_rfl) (fun _ _ _ h=>h) (.inl ⟨rfl,fun W' hW'=>by simp [go_sem]⟩) hS0.out ?_
 simp only [Act.put,List.setIfInBounds_toArray,List.set_cons_zero,List.set_cons_succ]
 refine anyL_take 3 (v:=(.agg #[.int .i64 (a),.int .i64 (h)])) rfl (by kernel_rfl) (fun _ _ _ h=>h) (.inl ⟨rfl,fun W' hW'=>by simp [go_sem]⟩) hS0.out ?_
 simp only [Act.put,List.setIfInBounds_toArray,List.set_cons_zero,List.set_cons_succ]
 refine anyL_take 4 (v:=(.int .i64 h)) rfl (by kernel_rfl) (fun _ _ _ h=>h) (.inl ⟨rfl,fun W' hW'=>by simp [go_sem]⟩) hS0.out ?_
 simp only [Act.put,List.setIfInBounds_toArray,List.set_cons_zero,List.set_cons_succ]
 refine anyL_take 5 (v:=(.int .i64 (h+1))) rfl (by kernel_rfl) (fun _ _ _ h=>h) (.inl ⟨rfl,fun W' hW'=>by simp [go_sem];rw [IntKind.wrap_i64];omega⟩) hS0.out ?_
 simp only [Act.put,List.setIfInBounds_toArray,List.set_cons_zero,List.set_cons_succ]
 refine anyL_take 6 (v:=(.pointer (some ⟨w.heap.size,1,none⟩))) rfl (by kernel_rfl) (fun _ _ _ h=>h) (.inl ⟨rfl,fun W' hW'=>by simp [go_sem]⟩) hS0.out ?_
 simp only [Act.put,List.setIfInBounds_toArray,List.set_cons_zero,List.set_cons_succ]
 refine anyL_take 7 (v:=(.int .i64 b)) rfl (by kernel_rfl) (fun _ _ _ h=>h) (.inl ⟨rfl,fun W' hW'=>by have e:=Box.cell hW' 1 rfl;simp [go_sem,e]⟩) hS0.out ?_
 simp only [Act.put,List.setIfInBounds_toArray,List.set_cons_zero,List.set_cons_succ]
 refine anyL_take 8 (v:=(.agg #[.int .i64 ((h+1)),.int .i64 (b)])) rfl (by kernel_rfl) (fun _ _ _ h=>h) (.inl ⟨rfl,fun W' hW'=>by simp [go_sem]⟩) hS0.out ?_
 simp only [Act.put,List.setIfInBounds_toArray,List.set_cons_zero,List.set_cons_succ]
 refine anyL_one (i:=9) (by kernel_rfl) rfl (fun K HK=>?_)
 go_wp2_with fail
 refine HK.out _ _ (fun _=>(hS0.out.other (by omega) 0 _).other (by omega) 1 _) ?_
 clear HK
 refine anyL_one (i:=10) (by kernel_rfl) rfl (fun K HK=>?_)
 go_wp2_with fail
 refine HK.out _ _ (fun h=>(h rfl).elim) ?_
 clear HK
 refine anyL_done (by kernel_rfl) ?_
 go_wp2_with fail
 refine forgetW (fun U=>Up w U∧Box U (w.heap.size+1) #[.int .i64 (a),.int .i64 (h)] 31∧Box U (w.heap.size+1+1) #[.int .i64 ((h+1)),.int .i64 (b)] 31) ?_ ?_
 · have N1:w.heap.size+1≠w.heap.size+1+1:=by omega
   have N2:w.heap.size+1+1≠w.heap.size+1:=by omega
   exact ⟨((((HE.out.1.drew.setCell (q:=⟨w.heap.size+1,0,none⟩) (by show w.heap.size≤w.heap.size+1;omega) _).setCell (q:=⟨w.heap.size+1,1,none⟩) (by show w.heap.size≤w.heap.size+1;omega) _).setCell (q:=⟨w.heap.size+1+1,0,none⟩) (by show w.heap.size≤w.heap.size+1+1;omega) _).setCell (q:=⟨w.heap.size+1+1,1,none⟩) (by show w.heap.size≤w.heap.size+1+1;omega) _),((((HE.out.2.2.1.drew.set 0 (.int .i64 a)).set 1 (.int .i64 h)).other N1 0 _).other N1 1 _),((((HE.out.2.2.2.drew.other N2 0 _).other N2 1 _).set 0 (.int .i64 (h+1))).set 1 (.int .i64 b))⟩
 rintro U ⟨hu,b1,b2⟩
 have z0:=b1.cell 0 rfl
 have z1:=b1.cell 1 rfl
 have z2:=b2.cell 0 rfl
 have z3:=b2.cell 1 rfl
 refine bodyPost_give hu rfl ⟨_,(by simp [results,Tryz.results168,go_sem,z0,z1,z2,z3];rfl),?_⟩
 rfl
end Go.Proofs.YteafglginnonnaaGreat
/- Reference bolideref04: Split. Conditions: what lies in memory. -/
namespace Go.Proofs.YteafglginnonnaaGreat
open Go.RowKit Go.Shelf
theorem Up.set8 {w W:World} (h:Up w W) {b:Nat} (hb:w.heap.size≤b) (v0 v1 v2 v3 v4 v5 v6 v7:Value):Up w ((((((((W.setCell ⟨b,0,none⟩ v0).setCell ⟨b,1,none⟩ v1).setCell ⟨b,2,none⟩ v2).setCell ⟨b,3,none⟩ v3).setCell ⟨b,4,none⟩ v4).setCell ⟨b,5,none⟩ v5).setCell ⟨b,6,none⟩ v6).setCell ⟨b,7,none⟩ v7):=((((((((h.setCell (q:=⟨b,0,none⟩) hb v0).setCell (q:=⟨b,1,none⟩) hb v1).setCell (q:=⟨b,2,none⟩) hb v2).setCell (q:=⟨b,3,none⟩) hb v3).setCell (q:=⟨b,4,none⟩) hb v4).setCell (q:=⟨b,5,none⟩) hb v5).setCell (q:=⟨b,6,none⟩) hb v6).setCell (q:=⟨b,7,none⟩) hb v7)
theorem Box.other8 {W:World} {x:Nat} {c:Array Value} {t:TypeId} (h:Box W x c t) {b:Nat} (hne:x≠b) (v0 v1 v2 v3 v4 v5 v6 v7:Value):Box ((((((((W.setCell ⟨b,0,none⟩ v0).setCell ⟨b,1,none⟩ v1).setCell ⟨b,2,none⟩ v2).setCell ⟨b,3,none⟩ v3).setCell ⟨b,4,none⟩ v4).setCell ⟨b,5,none⟩ v5).setCell ⟨b,6,none⟩ v6).setCell ⟨b,7,none⟩ v7) x c t:=((((((((h.other hne 0 v0).other hne 1 v1).other hne 2 v2).other hne 3 v3).other hne 4 v4).other hne 5 v5).other hne 6 v6).other hne 7 v7)
theorem Box.put8 {W:World} {b:Nat} {a0 a1 a2 a3 a4 a5 a6 a7:Value} {t:TypeId} (h:Box W b #[a0,a1,a2,a3,a4,a5,a6,a7] t) (v0 v1 v2 v3 v4 v5 v6 v7:Value):Box ((((((((W.setCell ⟨b,0,none⟩ v0).setCell ⟨b,1,none⟩ v1).setCell ⟨b,2,none⟩ v2).setCell ⟨b,3,none⟩ v3).setCell ⟨b,4,none⟩ v4).setCell ⟨b,5,none⟩ v5).setCell ⟨b,6,none⟩ v6).setCell ⟨b,7,none⟩ v7) b #[v0,v1,v2,v3,v4,v5,v6,v7] t:=by
 simpa using ((((((((h.set 0 v0).set 1 v1).set 2 v2).set 3 v3).set 4 v4).set 5 v5).set 6 v6).set 7 v7)
set_option maxRecDepth 100000 in
set_option maxHeartbeats 20000000 in
theorem qsplit_any (b:BoxD) (hn:BNum b) (w:World):Gives Tryz.prog 124 #[.agg (boxA b)] w (.tuple #[.agg (boxA (splitV b).1.1),.agg (boxA (splitV b).1.2),.bool (splitV b).2]):=by
 have HWI:=hide (fun W=>qwidest_any hn W)
 have HC:=hide (fun W=>qbox_any b W)
 have HI:=hide (widI_lt b)
 unfold splitV
 have hcut:=fun (i:Nat) (hi:i<4)=>hn.h i hi
 generalize widI b=I at *
 generalize widN b=N at *
 generalize boxE b=E at *
 by_cases hc:E=0∧N≠0
 rotate_left
 · rw [if_neg hc]
   have hcb:(E != 0 || N==0)=true:=by
    by_cases h:E=0
    · subst h
      by_cases h2:N=0
      · subst h2;rfl
      · exact absurd ⟨rfl,h2⟩ hc
    · simp [h]
   obtain ⟨x0,x1,y0,y1,u0,u1,v0,v1⟩:=b
   unfold boxA zeroBx at *
   dsimp only at *
   rcases hE:(E != 0) with _ | _
   · have hN:(N==0)=true:=by rw [hE] at hcb;simpa using hcb
     clear hcb hc hcut
     (unfold Gives;go_enter Tryz.func124,Tryz.ntmps124)
     go_wp2_with (first|(go_at_call 123;refine (HWI.out _).mono ?_;intro _)|(go_at_call 122;refine (HC.out _).mono ?_;intro _))
     (refine bodyPost_give (by repeat (first|with_reducible (first|exact Up.refl _|apply Up.plus)|apply Up.ext|apply Up.alloc|apply Up.drew|refine Up.setCell ?_ (by simp;try omega) _)) rfl ⟨_,(by simp [results,Tryz.results124,go_sem];rfl),?_⟩)
     rfl
   · clear hcb hc hcut
     (unfold Gives;go_enter Tryz.func124,Tryz.ntmps124)
     go_wp2_with (first|(go_at_call 123;refine (HWI.out _).mono ?_;intro _)|(go_at_call 122;refine (HC.out _).mono ?_;intro _))
     (refine bodyPost_give (by repeat (first|with_reducible (first|exact Up.refl _|apply Up.plus)|apply Up.ext|apply Up.alloc|apply Up.drew|refine Up.setCell ?_ (by simp;try omega) _)) rfl ⟨_,(by simp [results,Tryz.results124,go_sem];rfl),?_⟩)
     rfl
 rw [if_pos hc]
 obtain ⟨rfl,hN0⟩:=hc
 have hN:(N==0)=false:=by simpa using hN0
 clear hN0
 have hi4:I=0∨I=1∨I=2∨I=3:=by have:=HI.out;omega
 have b0:=hcut 0 (by omega)
 have b1:=hcut 1 (by omega)
 have b2:=hcut 2 (by omega)
 have b3:=hcut 3 (by omega)
 obtain ⟨x0,x1,y0,y1,u0,u1,v0,v1⟩:=b
 unfold loL hiL at b0 b1 b2 b3
 simp only [List.getD_cons_zero,List.getD_cons_succ] at b0 b1 b2 b3
 have HC0:=hide (fun W=>qcut_any b0.1 b0.2 W)
 have HC1:=hide (fun W=>qcut_any b1.1 b1.2 W)
 have HC2:=hide (fun W=>qcut_any b2.1 b2.2 W)
 have HC3:=hide (fun W=>qcut_any b3.1 b3.2 W)
 obtain ⟨CB,hCB⟩:∃ c,c=cutB ⟨x0,x1,y0,y1,u0,u1,v0,v1⟩ I:=⟨_,rfl⟩
 rw [← hCB]
 obtain ⟨⟨p0,p1,p2,p3,p4,p5,p6,p7⟩,q0,q1,q2,q3,q4,q5,q6,q7⟩:=CB
 have HEQ:=hide hCB
 clear hCB
 unfold boxA at HWI HC ⊢
 dsimp only at HWI HC ⊢
 clear hn HI hcut b0 b1 b2 b3
 (unfold Gives;go_enter Tryz.func124,Tryz.ntmps124)
 go_wp2_with (first|(go_at_call 123;refine (HWI.out _).mono ?_;intro _)|(go_at_call 122;refine (HC.out _).mono ?_;intro _))
 refine forgetW (fun U=>Up w U∧Box U w.heap.size #[.int .i64 (x0),.int .i64 (x1),.int .i64 (y0),.int .i64 (y1),.int .i64 (u0),.int .i64 (u1),.int .i64 (v0),.int .i64 (v1)] 69∧Box U (w.heap.size+1) #[.int .i64 (0),.int .i64 (0),.int .i64 (0),.int .i64 (0),.int .i64 (0),.int .i64 (0),.int .i64 (0),.int .i64 (0)] 69∧Box U (w.heap.size+1+1) #[.int .i64 (0),.int .i64 (0),.int .i64 (0),.int .i64 (0),.int .i64 (0),.int .i64 (0),.int .i64 (0),.int .i64 (0)] 69) ⟨(by repeat (first|with_reducible (first|exact Up.refl _|apply Up.plus)|apply Up.ext|apply Up.alloc|apply Up.drew|refine Up.setCell ?_ (by simp;try omega) _)),(by repeat (first|exact Box.mk rfl|(refine Box.mk ?_;simp;done)|apply Box.ext|apply Box.drew|apply Box.alloc|apply Box.two1|refine Box.other ?_ (by omega) _ _)),(by repeat (first|exact Box.mk rfl|(refine Box.mk ?_;simp;done)|apply Box.ext|apply Box.drew|apply Box.alloc|apply Box.two1|refine Box.other ?_ (by omega) _ _)),(by repeat (first|exact Box.mk rfl|(refine Box.mk ?_;simp;done)|apply Box.ext|apply Box.drew|apply Box.alloc|apply Box.two1|refine Box.other ?_ (by omega) _ _))⟩ ?_
 intro V0 h0
 have H0:=hide h0
 clear h0
 have a0:=(H0.out.2.1).cell 0 rfl
 have a1:=(H0.out.2.1).cell 1 rfl
 have a2:=(H0.out.2.1).cell 2 rfl
 have a3:=(H0.out.2.1).cell 3 rfl
 have a4:=(H0.out.2.1).cell 4 rfl
 have a5:=(H0.out.2.1).cell 5 rfl
 have a6:=(H0.out.2.1).cell 6 rfl
 have a7:=(H0.out.2.1).cell 7 rfl
 have la:=(H0.out.2.1).lt
 have fza0:=(H0.out.2.1).frozen 0
 have fza1:=(H0.out.2.1).frozen 1
 have fza2:=(H0.out.2.1).frozen 2
 have fza3:=(H0.out.2.1).frozen 3
 have fza4:=(H0.out.2.1).frozen 4
 have fza5:=(H0.out.2.1).frozen 5
 have fza6:=(H0.out.2.1).frozen 6
 have fza7:=(H0.out.2.1).frozen 7
 refine wp_via (fun a a' W=>∃ p q:Nat,a'={ a with tmps:=(((a.tmps.setIfInBounds 7 (.pointer (some ⟨p,0,none⟩))).setIfInBounds 8 (.pointer (some ⟨q,0,none⟩))).setIfInBounds 23 (.agg #[.int .i64 (x0),.int .i64 (x1),.int .i64 (y0),.int .i64 (y1),.int .i64 (u0),.int .i64 (u1),.int .i64 (v0),.int .i64 (v1)])).setIfInBounds 24 (.agg #[.int .i64 (x0),.int .i64 (x1),.int .i64 (y0),.int .i64 (y1),.int .i64 (u0),.int .i64 (u1),.int .i64 (v0),.int .i64 (v1)]) } ∧
  Up V0 W∧Box W p #[.int .i64 (x0),.int .i64 (x1),.int .i64 (y0),.int .i64 (y1),.int .i64 (u0),.int .i64 (u1),.int .i64 (v0),.int .i64 (v1)] 69∧Box W q #[.int .i64 (x0),.int .i64 (x1),.int .i64 (y0),.int .i64 (y1),.int .i64 (u0),.int .i64 (u1),.int .i64 (v0),.int .i64 (v1)] 69∧V0.heap.size≤p∧V0.heap.size≤q∧p≠q) ?_ ?_
 · intro K HQ
   go_region
   all_goals refine HQ.out _ _ ?_
   all_goals clear HQ
   · exact ⟨V0.heap.size,V0.heap.size+1,by kernel_rfl,(by repeat (first|with_reducible (first|exact Up.refl _|apply Up.plus)|apply Up.ext|apply Up.alloc|apply Up.drew|refine Up.setCell ?_ (by simp;try omega) _)),(by repeat (first|exact Box.mk rfl|(refine Box.mk ?_;simp;done)|apply Box.ext|apply Box.drew|apply Box.alloc|apply Box.two1|refine Box.other ?_ (by omega) _ _)),(by repeat (first|exact Box.mk rfl|(refine Box.mk ?_;simp;done)|apply Box.ext|apply Box.drew|apply Box.alloc|apply Box.two1|refine Box.other ?_ (by omega) _ _)),by omega,by omega,by omega⟩
   · exact ⟨V0.heap.size+1,V0.heap.size,by kernel_rfl,(by repeat (first|with_reducible (first|exact Up.refl _|apply Up.plus)|apply Up.ext|apply Up.alloc|apply Up.drew|refine Up.setCell ?_ (by simp;try omega) _)),(by repeat (first|exact Box.mk rfl|(refine Box.mk ?_;simp;done)|apply Box.ext|apply Box.drew|apply Box.alloc|apply Box.two1|refine Box.other ?_ (by omega) _ _)),(by repeat (first|exact Box.mk rfl|(refine Box.mk ?_;simp;done)|apply Box.ext|apply Box.drew|apply Box.alloc|apply Box.two1|refine Box.other ?_ (by omega) _ _)),by omega,by omega,by omega⟩
 rintro a' W ⟨p,q,rfl,hu,bp,bq,hp,hq,hpq⟩
 simp only [List.setIfInBounds_toArray,List.set_cons_zero,List.set_cons_succ]
 have hsz:=H0.out.1.below.size
 have l2:=H0.out.2.2.2.lt
 have hqp:=Ne.symm hpq
 have Np1:p≠w.heap.size+1:=by omega
 have Np2:p≠w.heap.size+1+1:=by omega
 have Nq1:q≠w.heap.size+1:=by omega
 have Nq2:q≠w.heap.size+1+1:=by omega
 have N12:w.heap.size+1≠w.heap.size+1+1:=by omega
 have N21:w.heap.size+1+1≠w.heap.size+1:=by omega
 have H1:=hide (And.intro (H0.out.1.trans hu) (And.intro (H0.out.2.1.up hu) (And.intro (H0.out.2.2.1.up hu) (And.intro (H0.out.2.2.2.up hu) (And.intro bp bq)))))
 clear hu bp bq H0 a0 a1 a2 a3 a4 a5 a6 a7 la fza0 fza1 fza2 fza3 fza4 fza5 fza6 fza7 HC HWI
 unfold Exit.then
 dsimp only
 rcases hi4 with rfl | rfl | rfl | rfl
 · have HCk:=hide HC0.out
   have hCB:=HEQ.out.symm
   clear HC0 HC1 HC2 HC3 HEQ
   rw [show cutB ⟨x0,x1,y0,y1,u0,u1,v0,v1⟩ 0=(⟨x0,(x0+x1) / 2,y0,y1,u0,u1,v0,v1⟩,⟨(x0+x1) / 2+1,x1,y0,y1,u0,u1,v0,v1⟩) from rfl] at hCB
   generalize (x0+x1) / 2=m at *
   simp only [Prod.mk.injEq,BoxD.mk.injEq] at hCB
   obtain ⟨⟨rfl,rfl,rfl,rfl,rfl,rfl,rfl,rfl⟩,rfl,rfl,rfl,rfl,rfl,rfl,rfl,rfl⟩:=hCB
   have a0:=(H1.out.2.1).cell 0 rfl
   have a1:=(H1.out.2.1).cell 1 rfl
   have a2:=(H1.out.2.1).cell 2 rfl
   have a3:=(H1.out.2.1).cell 3 rfl
   have a4:=(H1.out.2.1).cell 4 rfl
   have a5:=(H1.out.2.1).cell 5 rfl
   have a6:=(H1.out.2.1).cell 6 rfl
   have a7:=(H1.out.2.1).cell 7 rfl
   have la:=(H1.out.2.1).lt
   have fza0:=(H1.out.2.1).frozen 0
   have fza1:=(H1.out.2.1).frozen 1
   have fza2:=(H1.out.2.1).frozen 2
   have fza3:=(H1.out.2.1).frozen 3
   have fza4:=(H1.out.2.1).frozen 4
   have fza5:=(H1.out.2.1).frozen 5
   have fza6:=(H1.out.2.1).frozen 6
   have fza7:=(H1.out.2.1).frozen 7
   have b0:=(H1.out.2.2.2.2.1).cell 0 rfl
   have b1:=(H1.out.2.2.2.2.1).cell 1 rfl
   have b2:=(H1.out.2.2.2.2.1).cell 2 rfl
   have b3:=(H1.out.2.2.2.2.1).cell 3 rfl
   have b4:=(H1.out.2.2.2.2.1).cell 4 rfl
   have b5:=(H1.out.2.2.2.2.1).cell 5 rfl
   have b6:=(H1.out.2.2.2.2.1).cell 6 rfl
   have b7:=(H1.out.2.2.2.2.1).cell 7 rfl
   have lb:=(H1.out.2.2.2.2.1).lt
   have fzb0:=(H1.out.2.2.2.2.1).frozen 0
   have fzb1:=(H1.out.2.2.2.2.1).frozen 1
   have fzb2:=(H1.out.2.2.2.2.1).frozen 2
   have fzb3:=(H1.out.2.2.2.2.1).frozen 3
   have fzb4:=(H1.out.2.2.2.2.1).frozen 4
   have fzb5:=(H1.out.2.2.2.2.1).frozen 5
   have fzb6:=(H1.out.2.2.2.2.1).frozen 6
   have fzb7:=(H1.out.2.2.2.2.1).frozen 7
   have c0:=(H1.out.2.2.2.2.2).cell 0 rfl
   have c1:=(H1.out.2.2.2.2.2).cell 1 rfl
   have c2:=(H1.out.2.2.2.2.2).cell 2 rfl
   have c3:=(H1.out.2.2.2.2.2).cell 3 rfl
   have c4:=(H1.out.2.2.2.2.2).cell 4 rfl
   have c5:=(H1.out.2.2.2.2.2).cell 5 rfl
   have c6:=(H1.out.2.2.2.2.2).cell 6 rfl
   have c7:=(H1.out.2.2.2.2.2).cell 7 rfl
   have lc:=(H1.out.2.2.2.2.2).lt
   have fzc0:=(H1.out.2.2.2.2.2).frozen 0
   have fzc1:=(H1.out.2.2.2.2.2).frozen 1
   have fzc2:=(H1.out.2.2.2.2.2).frozen 2
   have fzc3:=(H1.out.2.2.2.2.2).frozen 3
   have fzc4:=(H1.out.2.2.2.2.2).frozen 4
   have fzc5:=(H1.out.2.2.2.2.2).frozen 5
   have fzc6:=(H1.out.2.2.2.2.2).frozen 6
   have fzc7:=(H1.out.2.2.2.2.2).frozen 7
   go_wp2_with (go_at_call 168;refine (HCk.out _).mono ?_;intro _)
   refine forgetW (fun U=>Up w U∧Box U (w.heap.size+1) #[.int .i64 (0),.int .i64 (0),.int .i64 (0),.int .i64 (0),.int .i64 (0),.int .i64 (0),.int .i64 (0),.int .i64 (0)] 69∧Box U (w.heap.size+1+1) #[.int .i64 (0),.int .i64 (0),.int .i64 (0),.int .i64 (0),.int .i64 (0),.int .i64 (0),.int .i64 (0),.int .i64 (0)] 69∧Box U p #[.int .i64 (x0),.int .i64 (m),.int .i64 (y0),.int .i64 (y1),.int .i64 (u0),.int .i64 (u1),.int .i64 (v0),.int .i64 (v1)] 69∧Box U q #[.int .i64 ((m+1)),.int .i64 (x1),.int .i64 (y0),.int .i64 (y1),.int .i64 (u0),.int .i64 (u1),.int .i64 (v0),.int .i64 (v1)] 69) ⟨((((H1.out.1.setCell (q:=⟨p,0,none⟩) (by show w.heap.size≤p;omega) _).setCell (q:=⟨p,1,none⟩) (by show w.heap.size≤p;omega) _).setCell (q:=⟨q,0,none⟩) (by show w.heap.size≤q;omega) _).setCell (q:=⟨q,1,none⟩) (by show w.heap.size≤q;omega) _).ext _,((((H1.out.2.2.1.other (by omega) 0 _).other (by omega) 1 _).other (by omega) 0 _).other (by omega) 1 _).ext _,((((H1.out.2.2.2.1.other (by omega) 0 _).other (by omega) 1 _).other (by omega) 0 _).other (by omega) 1 _).ext _,((((H1.out.2.2.2.2.1.set 0 (.int .i64 x0)).set 1 (.int .i64 m)).other hpq 0 _).other hpq 1 _).ext _,((((H1.out.2.2.2.2.2.other hqp 0 _).other hqp 1 _).set 0 (.int .i64 (m+1))).set 1 (.int .i64 x1)).ext _⟩ ?_
   clear H1 HCk a0 a1 a2 a3 a4 a5 a6 a7 la fza0 fza1 fza2 fza3 fza4 fza5 fza6 fza7 b0 b1 b2 b3 b4 b5 b6 b7 lb fzb0 fzb1 fzb2 fzb3 fzb4 fzb5 fzb6 fzb7 c0 c1 c2 c3 c4 c5 c6 c7 lc fzc0 fzc1 fzc2 fzc3 fzc4 fzc5 fzc6 fzc7
   intro V1 h1
   have H2:=hide h1
   clear h1
   have hS0:=hide (show Box V1.drew p #[.int .i64 (x0),.int .i64 (m),.int .i64 (y0),.int .i64 (y1),.int .i64 (u0),.int .i64 (u1),.int .i64 (v0),.int .i64 (v1)] 69∧Box V1.drew q #[.int .i64 ((m+1)),.int .i64 (x1),.int .i64 (y0),.int .i64 (y1),.int .i64 (u0),.int .i64 (u1),.int .i64 (v0),.int .i64 (v1)] 69 from ⟨H2.out.2.2.2.1.drew,H2.out.2.2.2.2.drew⟩)
   refine wp_region_L (fun W'=>Box W' p #[.int .i64 (x0),.int .i64 (m),.int .i64 (y0),.int .i64 (y1),.int .i64 (u0),.int .i64 (u1),.int .i64 (v0),.int .i64 (v1)] 69∧Box W' q #[.int .i64 ((m+1)),.int .i64 (x1),.int .i64 (y0),.int .i64 (y1),.int .i64 (u0),.int .i64 (u1),.int .i64 (v0),.int .i64 (v1)] 69) 4 (by kernel_rfl) ?_
   refine anyL_take 0 (v:=.agg #[.int .i64 (x0),.int .i64 (m),.int .i64 (y0),.int .i64 (y1),.int .i64 (u0),.int .i64 (u1),.int .i64 (v0),.int .i64 (v1)]) rfl (by kernel_rfl) (fun _ _ _ h=>h) (.inl ⟨rfl,fun W' hW'=>by have e0:=Box.cell hW'.1 0 rfl;have e1:=Box.cell hW'.1 1 rfl;have e2:=Box.cell hW'.1 2 rfl;have e3:=Box.cell hW'.1 3 rfl;have e4:=Box.cell hW'.1 4 rfl;have e5:=Box.cell hW'.1 5 rfl;have e6:=Box.cell hW'.1 6 rfl;have e7:=Box.cell hW'.1 7 rfl;simp [go_sem,e0,e1,e2,e3,e4,e5,e6,e7]⟩) hS0.out ?_
   simp only [Act.put,List.setIfInBounds_toArray,List.set_cons_zero,List.set_cons_succ]
   refine anyL_take 1 (v:=.agg #[.int .i64 ((m+1)),.int .i64 (x1),.int .i64 (y0),.int .i64 (y1),.int .i64 (u0),.int .i64 (u1),.int .i64 (v0),.int .i64 (v1)]) rfl (by kernel_rfl) (fun _ _ _ h=>h) (.inl ⟨rfl,fun W' hW'=>by have e0:=Box.cell hW'.2 0 rfl;have e1:=Box.cell hW'.2 1 rfl;have e2:=Box.cell hW'.2 2 rfl;have e3:=Box.cell hW'.2 3 rfl;have e4:=Box.cell hW'.2 4 rfl;have e5:=Box.cell hW'.2 5 rfl;have e6:=Box.cell hW'.2 6 rfl;have e7:=Box.cell hW'.2 7 rfl;simp [go_sem,e0,e1,e2,e3,e4,e5,e6,e7]⟩) hS0.out ?_
   simp only [Act.put,List.setIfInBounds_toArray,List.set_cons_zero,List.set_cons_succ]
   have a0:=(H2.out.2.1).cell 0 rfl
   have a1:=(H2.out.2.1).cell 1 rfl
   have a2:=(H2.out.2.1).cell 2 rfl
   have a3:=(H2.out.2.1).cell 3 rfl
   have a4:=(H2.out.2.1).cell 4 rfl
   have a5:=(H2.out.2.1).cell 5 rfl
   have a6:=(H2.out.2.1).cell 6 rfl
   have a7:=(H2.out.2.1).cell 7 rfl
   have la:=(H2.out.2.1).lt
   have fza0:=(H2.out.2.1).frozen 0
   have fza1:=(H2.out.2.1).frozen 1
   have fza2:=(H2.out.2.1).frozen 2
   have fza3:=(H2.out.2.1).frozen 3
   have fza4:=(H2.out.2.1).frozen 4
   have fza5:=(H2.out.2.1).frozen 5
   have fza6:=(H2.out.2.1).frozen 6
   have fza7:=(H2.out.2.1).frozen 7
   have b0:=(H2.out.2.2.1).cell 0 rfl
   have b1:=(H2.out.2.2.1).cell 1 rfl
   have b2:=(H2.out.2.2.1).cell 2 rfl
   have b3:=(H2.out.2.2.1).cell 3 rfl
   have b4:=(H2.out.2.2.1).cell 4 rfl
   have b5:=(H2.out.2.2.1).cell 5 rfl
   have b6:=(H2.out.2.2.1).cell 6 rfl
   have b7:=(H2.out.2.2.1).cell 7 rfl
   have lb:=(H2.out.2.2.1).lt
   have fzb0:=(H2.out.2.2.1).frozen 0
   have fzb1:=(H2.out.2.2.1).frozen 1
   have fzb2:=(H2.out.2.2.1).frozen 2
   have fzb3:=(H2.out.2.2.1).frozen 3
   have fzb4:=(H2.out.2.2.1).frozen 4
   have fzb5:=(H2.out.2.2.1).frozen 5
   have fzb6:=(H2.out.2.2.1).frozen 6
   have fzb7:=(H2.out.2.2.1).frozen 7
   refine anyL_one (i:=2) (by kernel_rfl) rfl (fun K HK=>?_)
   go_wp2_with fail
   refine HK.out _ _ (fun _=>⟨(H2.out.2.2.2.1.other8 Np1 _ _ _ _ _ _ _ _).drew,(H2.out.2.2.2.2.other8 Nq1 _ _ _ _ _ _ _ _).drew⟩) ?_
   clear HK
   refine anyL_one (i:=3) (by kernel_rfl) rfl (fun K HK=>?_)
   go_wp2_with fail
   refine HK.out _ _ (fun _=>⟨((H2.out.2.2.2.1.other8 Np1 _ _ _ _ _ _ _ _).other8 Np2 _ _ _ _ _ _ _ _).drew,((H2.out.2.2.2.2.other8 Nq1 _ _ _ _ _ _ _ _).other8 Nq2 _ _ _ _ _ _ _ _).drew⟩) ?_
   clear HK
   refine anyL_one (i:=4) (by kernel_rfl) rfl (fun K HK=>?_)
   go_wp2_with fail
   refine HK.out _ _ (fun h=>(h rfl).elim) ?_
   clear HK
   refine anyL_done (by kernel_rfl) ?_
   go_wp2_with fail
   refine forgetW (fun U=>Up w U∧Box U (w.heap.size+1) #[.int .i64 (x0),.int .i64 (m),.int .i64 (y0),.int .i64 (y1),.int .i64 (u0),.int .i64 (u1),.int .i64 (v0),.int .i64 (v1)] 69∧Box U (w.heap.size+1+1) #[.int .i64 ((m+1)),.int .i64 (x1),.int .i64 (y0),.int .i64 (y1),.int .i64 (u0),.int .i64 (u1),.int .i64 (v0),.int .i64 (v1)] 69) ?_ ?_
   · exact ⟨((H2.out.1.set8 (show w.heap.size≤w.heap.size+1 by omega) _ _ _ _ _ _ _ _).set8 (show w.heap.size≤w.heap.size+1+1 by omega) _ _ _ _ _ _ _ _).drew,((H2.out.2.1.put8 (.int .i64 x0) (.int .i64 m) (.int .i64 y0) (.int .i64 y1) (.int .i64 u0) (.int .i64 u1) (.int .i64 v0) (.int .i64 v1)).other8 N12 _ _ _ _ _ _ _ _).drew,((H2.out.2.2.1.other8 N21 _ _ _ _ _ _ _ _).put8 (.int .i64 (m+1)) (.int .i64 x1) (.int .i64 y0) (.int .i64 y1) (.int .i64 u0) (.int .i64 u1) (.int .i64 v0) (.int .i64 v1)).drew⟩
   clear H2 hS0 a0 a1 a2 a3 a4 a5 a6 a7 la fza0 fza1 fza2 fza3 fza4 fza5 fza6 fza7 b0 b1 b2 b3 b4 b5 b6 b7 lb fzb0 fzb1 fzb2 fzb3 fzb4 fzb5 fzb6 fzb7
   rintro U ⟨hu,b1,b2⟩
   have e0:=b1.cell 0 rfl
   have f0:=b2.cell 0 rfl
   have e1:=b1.cell 1 rfl
   have f1:=b2.cell 1 rfl
   have e2:=b1.cell 2 rfl
   have f2:=b2.cell 2 rfl
   have e3:=b1.cell 3 rfl
   have f3:=b2.cell 3 rfl
   have e4:=b1.cell 4 rfl
   have f4:=b2.cell 4 rfl
   have e5:=b1.cell 5 rfl
   have f5:=b2.cell 5 rfl
   have e6:=b1.cell 6 rfl
   have f6:=b2.cell 6 rfl
   have e7:=b1.cell 7 rfl
   have f7:=b2.cell 7 rfl
   refine bodyPost_give hu rfl ⟨_,(by simp [results,Tryz.results124,go_sem,e0,e1,e2,e3,e4,e5,e6,e7,f0,f1,f2,f3,f4,f5,f6,f7];rfl),?_⟩
   rfl
 · have HCk:=hide HC1.out
   have hCB:=HEQ.out.symm
   clear HC0 HC1 HC2 HC3 HEQ
   rw [show cutB ⟨x0,x1,y0,y1,u0,u1,v0,v1⟩ 1=(⟨x0,x1,y0,(y0+y1) / 2,u0,u1,v0,v1⟩,⟨x0,x1,(y0+y1) / 2+1,y1,u0,u1,v0,v1⟩) from rfl] at hCB
   generalize (y0+y1) / 2=m at *
   simp only [Prod.mk.injEq,BoxD.mk.injEq] at hCB
   obtain ⟨⟨rfl,rfl,rfl,rfl,rfl,rfl,rfl,rfl⟩,rfl,rfl,rfl,rfl,rfl,rfl,rfl,rfl⟩:=hCB
   have a0:=(H1.out.2.1).cell 0 rfl
   have a1:=(H1.out.2.1).cell 1 rfl
   have a2:=(H1.out.2.1).cell 2 rfl
   have a3:=(H1.out.2.1).cell 3 rfl
   have a4:=(H1.out.2.1).cell 4 rfl
   have a5:=(H1.out.2.1).cell 5 rfl
   have a6:=(H1.out.2.1).cell 6 rfl
   have a7:=(H1.out.2.1).cell 7 rfl
   have la:=(H1.out.2.1).lt
   have fza0:=(H1.out.2.1).frozen 0
   have fza1:=(H1.out.2.1).frozen 1
   have fza2:=(H1.out.2.1).frozen 2
   have fza3:=(H1.out.2.1).frozen 3
   have fza4:=(H1.out.2.1).frozen 4
   have fza5:=(H1.out.2.1).frozen 5
   have fza6:=(H1.out.2.1).frozen 6
   have fza7:=(H1.out.2.1).frozen 7
   have b0:=(H1.out.2.2.2.2.1).cell 0 rfl
   have b1:=(H1.out.2.2.2.2.1).cell 1 rfl
   have b2:=(H1.out.2.2.2.2.1).cell 2 rfl
   have b3:=(H1.out.2.2.2.2.1).cell 3 rfl
   have b4:=(H1.out.2.2.2.2.1).cell 4 rfl
   have b5:=(H1.out.2.2.2.2.1).cell 5 rfl
   have b6:=(H1.out.2.2.2.2.1).cell 6 rfl
   have b7:=(H1.out.2.2.2.2.1).cell 7 rfl
   have lb:=(H1.out.2.2.2.2.1).lt
   have fzb0:=(H1.out.2.2.2.2.1).frozen 0
   have fzb1:=(H1.out.2.2.2.2.1).frozen 1
   have fzb2:=(H1.out.2.2.2.2.1).frozen 2
   have fzb3:=(H1.out.2.2.2.2.1).frozen 3
   have fzb4:=(H1.out.2.2.2.2.1).frozen 4
   have fzb5:=(H1.out.2.2.2.2.1).frozen 5
   have fzb6:=(H1.out.2.2.2.2.1).frozen 6
   have fzb7:=(H1.out.2.2.2.2.1).frozen 7
   have c0:=(H1.out.2.2.2.2.2).cell 0 rfl
   have c1:=(H1.out.2.2.2.2.2).cell 1 rfl
   have c2:=(H1.out.2.2.2.2.2).cell 2 rfl
   have c3:=(H1.out.2.2.2.2.2).cell 3 rfl
   have c4:=(H1.out.2.2.2.2.2).cell 4 rfl
   have c5:=(H1.out.2.2.2.2.2).cell 5 rfl
   have c6:=(H1.out.2.2.2.2.2).cell 6 rfl
   have c7:=(H1.out.2.2.2.2.2).cell 7 rfl
   have lc:=(H1.out.2.2.2.2.2).lt
   have fzc0:=(H1.out.2.2.2.2.2).frozen 0
   have fzc1:=(H1.out.2.2.2.2.2).frozen 1
   have fzc2:=(H1.out.2.2.2.2.2).frozen 2
   have fzc3:=(H1.out.2.2.2.2.2).frozen 3
   have fzc4:=(H1.out.2.2.2.2.2).frozen 4
   have fzc5:=(H1.out.2.2.2.2.2).frozen 5
   have fzc6:=(H1.out.2.2.2.2.2).frozen 6
   have fzc7:=(H1.out.2.2.2.2.2).frozen 7
   go_wp2_with (go_at_call 168;refine (HCk.out _).mono ?_;intro _)
   refine forgetW (fun U=>Up w U∧Box U (w.heap.size+1) #[.int .i64 (0),.int .i64 (0),.int .i64 (0),.int .i64 (0),.int .i64 (0),.int .i64 (0),.int .i64 (0),.int .i64 (0)] 69∧Box U (w.heap.size+1+1) #[.int .i64 (0),.int .i64 (0),.int .i64 (0),.int .i64 (0),.int .i64 (0),.int .i64 (0),.int .i64 (0),.int .i64 (0)] 69∧Box U p #[.int .i64 (x0),.int .i64 (x1),.int .i64 (y0),.int .i64 (m),.int .i64 (u0),.int .i64 (u1),.int .i64 (v0),.int .i64 (v1)] 69∧Box U q #[.int .i64 (x0),.int .i64 (x1),.int .i64 ((m+1)),.int .i64 (y1),.int .i64 (u0),.int .i64 (u1),.int .i64 (v0),.int .i64 (v1)] 69) ⟨((((H1.out.1.setCell (q:=⟨p,2,none⟩) (by show w.heap.size≤p;omega) _).setCell (q:=⟨p,3,none⟩) (by show w.heap.size≤p;omega) _).setCell (q:=⟨q,2,none⟩) (by show w.heap.size≤q;omega) _).setCell (q:=⟨q,3,none⟩) (by show w.heap.size≤q;omega) _).ext _,((((H1.out.2.2.1.other (by omega) 2 _).other (by omega) 3 _).other (by omega) 2 _).other (by omega) 3 _).ext _,((((H1.out.2.2.2.1.other (by omega) 2 _).other (by omega) 3 _).other (by omega) 2 _).other (by omega) 3 _).ext _,((((H1.out.2.2.2.2.1.set 2 (.int .i64 y0)).set 3 (.int .i64 m)).other hpq 2 _).other hpq 3 _).ext _,((((H1.out.2.2.2.2.2.other hqp 2 _).other hqp 3 _).set 2 (.int .i64 (m+1))).set 3 (.int .i64 y1)).ext _⟩ ?_
   clear H1 HCk a0 a1 a2 a3 a4 a5 a6 a7 la fza0 fza1 fza2 fza3 fza4 fza5 fza6 fza7 b0 b1 b2 b3 b4 b5 b6 b7 lb fzb0 fzb1 fzb2 fzb3 fzb4 fzb5 fzb6 fzb7 c0 c1 c2 c3 c4 c5 c6 c7 lc fzc0 fzc1 fzc2 fzc3 fzc4 fzc5 fzc6 fzc7
   intro V1 h1
   have H2:=hide h1
   clear h1
   have hS0:=hide (show Box V1.drew p #[.int .i64 (x0),.int .i64 (x1),.int .i64 (y0),.int .i64 (m),.int .i64 (u0),.int .i64 (u1),.int .i64 (v0),.int .i64 (v1)] 69∧Box V1.drew q #[.int .i64 (x0),.int .i64 (x1),.int .i64 ((m+1)),.int .i64 (y1),.int .i64 (u0),.int .i64 (u1),.int .i64 (v0),.int .i64 (v1)] 69 from ⟨H2.out.2.2.2.1.drew,H2.out.2.2.2.2.drew⟩)
   refine wp_region_L (fun W'=>Box W' p #[.int .i64 (x0),.int .i64 (x1),.int .i64 (y0),.int .i64 (m),.int .i64 (u0),.int .i64 (u1),.int .i64 (v0),.int .i64 (v1)] 69∧Box W' q #[.int .i64 (x0),.int .i64 (x1),.int .i64 ((m+1)),.int .i64 (y1),.int .i64 (u0),.int .i64 (u1),.int .i64 (v0),.int .i64 (v1)] 69) 4 (by kernel_rfl) ?_
   refine anyL_take 0 (v:=.agg #[.int .i64 (x0),.int .i64 (x1),.int .i64 (y0),.int .i64 (m),.int .i64 (u0),.int .i64 (u1),.int .i64 (v0),.int .i64 (v1)]) rfl (by kernel_rfl) (fun _ _ _ h=>h) (.inl ⟨rfl,fun W' hW'=>by have e0:=Box.cell hW'.1 0 rfl;have e1:=Box.cell hW'.1 1 rfl;have e2:=Box.cell hW'.1 2 rfl;have e3:=Box.cell hW'.1 3 rfl;have e4:=Box.cell hW'.1 4 rfl;have e5:=Box.cell hW'.1 5 rfl;have e6:=Box.cell hW'.1 6 rfl;have e7:=Box.cell hW'.1 7 rfl;simp [go_sem,e0,e1,e2,e3,e4,e5,e6,e7]⟩) hS0.out ?_
   simp only [Act.put,List.setIfInBounds_toArray,List.set_cons_zero,List.set_cons_succ]
   refine anyL_take 1 (v:=.agg #[.int .i64 (x0),.int .i64 (x1),.int .i64 ((m+1)),.int .i64 (y1),.int .i64 (u0),.int .i64 (u1),.int .i64 (v0),.int .i64 (v1)]) rfl (by kernel_rfl) (fun _ _ _ h=>h) (.inl ⟨rfl,fun W' hW'=>by have e0:=Box.cell hW'.2 0 rfl;have e1:=Box.cell hW'.2 1 rfl;have e2:=Box.cell hW'.2 2 rfl;have e3:=Box.cell hW'.2 3 rfl;have e4:=Box.cell hW'.2 4 rfl;have e5:=Box.cell hW'.2 5 rfl;have e6:=Box.cell hW'.2 6 rfl;have e7:=Box.cell hW'.2 7 rfl;simp [go_sem,e0,e1,e2,e3,e4,e5,e6,e7]⟩) hS0.out ?_
   simp only [Act.put,List.setIfInBounds_toArray,List.set_cons_zero,List.set_cons_succ]
   have a0:=(H2.out.2.1).cell 0 rfl
   have a1:=(H2.out.2.1).cell 1 rfl
   have a2:=(H2.out.2.1).cell 2 rfl
   have a3:=(H2.out.2.1).cell 3 rfl
   have a4:=(H2.out.2.1).cell 4 rfl
   have a5:=(H2.out.2.1).cell 5 rfl
   have a6:=(H2.out.2.1).cell 6 rfl
   have a7:=(H2.out.2.1).cell 7 rfl
   have la:=(H2.out.2.1).lt
   have fza0:=(H2.out.2.1).frozen 0
   have fza1:=(H2.out.2.1).frozen 1
   have fza2:=(H2.out.2.1).frozen 2
   have fza3:=(H2.out.2.1).frozen 3
   have fza4:=(H2.out.2.1).frozen 4
   have fza5:=(H2.out.2.1).frozen 5
   have fza6:=(H2.out.2.1).frozen 6
   have fza7:=(H2.out.2.1).frozen 7
   have b0:=(H2.out.2.2.1).cell 0 rfl
   have b1:=(H2.out.2.2.1).cell 1 rfl
   have b2:=(H2.out.2.2.1).cell 2 rfl
   have b3:=(H2.out.2.2.1).cell 3 rfl
   have b4:=(H2.out.2.2.1).cell 4 rfl
   have b5:=(H2.out.2.2.1).cell 5 rfl
   have b6:=(H2.out.2.2.1).cell 6 rfl
   have b7:=(H2.out.2.2.1).cell 7 rfl
   have lb:=(H2.out.2.2.1).lt
   have fzb0:=(H2.out.2.2.1).frozen 0
   have fzb1:=(H2.out.2.2.1).frozen 1
   have fzb2:=(H2.out.2.2.1).frozen 2
   have fzb3:=(H2.out.2.2.1).frozen 3
   have fzb4:=(H2.out.2.2.1).frozen 4
   have fzb5:=(H2.out.2.2.1).frozen 5
   have fzb6:=(H2.out.2.2.1).frozen 6
   have fzb7:=(H2.out.2.2.1).frozen 7
   refine anyL_one (i:=2) (by kernel_rfl) rfl (fun K HK=>?_)
   go_wp2_with fail
   refine HK.out _ _ (fun _=>⟨(H2.out.2.2.2.1.other8 Np1 _ _ _ _ _ _ _ _).drew,(H2.out.2.2.2.2.other8 Nq1 _ _ _ _ _ _ _ _).drew⟩) ?_
   clear HK
   refine anyL_one (i:=3) (by kernel_rfl) rfl (fun K HK=>?_)
   go_wp2_with fail
   refine HK.out _ _ (fun _=>⟨((H2.out.2.2.2.1.other8 Np1 _ _ _ _ _ _ _ _).other8 Np2 _ _ _ _ _ _ _ _).drew,((H2.out.2.2.2.2.other8 Nq1 _ _ _ _ _ _ _ _).other8 Nq2 _ _ _ _ _ _ _ _).drew⟩) ?_
   clear HK
   refine anyL_one (i:=4) (by kernel_rfl) rfl (fun K HK=>?_)
   go_wp2_with fail
   refine HK.out _ _ (fun h=>(h rfl).elim) ?_
   clear HK
   refine anyL_done (by kernel_rfl) ?_
   go_wp2_with fail
   refine forgetW (fun U=>Up w U∧Box U (w.heap.size+1) #[.int .i64 (x0),.int .i64 (x1),.int .i64 (y0),.int .i64 (m),.int .i64 (u0),.int .i64 (u1),.int .i64 (v0),.int .i64 (v1)] 69∧Box U (w.heap.size+1+1) #[.int .i64 (x0),.int .i64 (x1),.int .i64 ((m+1)),.int .i64 (y1),.int .i64 (u0),.int .i64 (u1),.int .i64 (v0),.int .i64 (v1)] 69) ?_ ?_
   · exact ⟨((H2.out.1.set8 (show w.heap.size≤w.heap.size+1 by omega) _ _ _ _ _ _ _ _).set8 (show w.heap.size≤w.heap.size+1+1 by omega) _ _ _ _ _ _ _ _).drew,((H2.out.2.1.put8 (.int .i64 x0) (.int .i64 x1) (.int .i64 y0) (.int .i64 m) (.int .i64 u0) (.int .i64 u1) (.int .i64 v0) (.int .i64 v1)).other8 N12 _ _ _ _ _ _ _ _).drew,((H2.out.2.2.1.other8 N21 _ _ _ _ _ _ _ _).put8 (.int .i64 x0) (.int .i64 x1) (.int .i64 (m+1)) (.int .i64 y1) (.int .i64 u0) (.int .i64 u1) (.int .i64 v0) (.int .i64 v1)).drew⟩
   clear H2 hS0 a0 a1 a2 a3 a4 a5 a6 a7 la fza0 fza1 fza2 fza3 fza4 fza5 fza6 fza7 b0 b1 b2 b3 b4 b5 b6 b7 lb fzb0 fzb1 fzb2 fzb3 fzb4 fzb5 fzb6 fzb7
   rintro U ⟨hu,b1,b2⟩
   have e0:=b1.cell 0 rfl
   have f0:=b2.cell 0 rfl
   have e1:=b1.cell 1 rfl
   have f1:=b2.cell 1 rfl
   have e2:=b1.cell 2 rfl
   have f2:=b2.cell 2 rfl
   have e3:=b1.cell 3 rfl
   have f3:=b2.cell 3 rfl
   have e4:=b1.cell 4 rfl
   have f4:=b2.cell 4 rfl
   have e5:=b1.cell 5 rfl
   have f5:=b2.cell 5 rfl
   have e6:=b1.cell 6 rfl
   have f6:=b2.cell 6 rfl
   have e7:=b1.cell 7 rfl
   have f7:=b2.cell 7 rfl
   refine bodyPost_give hu rfl ⟨_,(by simp [results,Tryz.results124,go_sem,e0,e1,e2,e3,e4,e5,e6,e7,f0,f1,f2,f3,f4,f5,f6,f7];rfl),?_⟩
   rfl
 · have HCk:=hide HC2.out
   have hCB:=HEQ.out.symm
   clear HC0 HC1 HC2 HC3 HEQ
   rw [show cutB ⟨x0,x1,y0,y1,u0,u1,v0,v1⟩ 2=(⟨x0,x1,y0,y1,u0,(u0+u1) / 2,v0,v1⟩,⟨x0,x1,y0,y1,(u0+u1) / 2+1,u1,v0,v1⟩) from rfl] at hCB
   generalize (u0+u1) / 2=m at *
   simp only [Prod.mk.injEq,BoxD.mk.injEq] at hCB
   obtain ⟨⟨rfl,rfl,rfl,rfl,rfl,rfl,rfl,rfl⟩,rfl,rfl,rfl,rfl,rfl,rfl,rfl,rfl⟩:=hCB
   have a0:=(H1.out.2.1).cell 0 rfl
   have a1:=(H1.out.2.1).cell 1 rfl
   have a2:=(H1.out.2.1).cell 2 rfl
   have a3:=(H1.out.2.1).cell 3 rfl
   have a4:=(H1.out.2.1).cell 4 rfl
   have a5:=(H1.out.2.1).cell 5 rfl
   have a6:=(H1.out.2.1).cell 6 rfl
   have a7:=(H1.out.2.1).cell 7 rfl
   have la:=(H1.out.2.1).lt
   have fza0:=(H1.out.2.1).frozen 0
   have fza1:=(H1.out.2.1).frozen 1
   have fza2:=(H1.out.2.1).frozen 2
   have fza3:=(H1.out.2.1).frozen 3
   have fza4:=(H1.out.2.1).frozen 4
   have fza5:=(H1.out.2.1).frozen 5
   have fza6:=(H1.out.2.1).frozen 6
   have fza7:=(H1.out.2.1).frozen 7
   have b0:=(H1.out.2.2.2.2.1).cell 0 rfl
   have b1:=(H1.out.2.2.2.2.1).cell 1 rfl
   have b2:=(H1.out.2.2.2.2.1).cell 2 rfl
   have b3:=(H1.out.2.2.2.2.1).cell 3 rfl
   have b4:=(H1.out.2.2.2.2.1).cell 4 rfl
   have b5:=(H1.out.2.2.2.2.1).cell 5 rfl
   have b6:=(H1.out.2.2.2.2.1).cell 6 rfl
   have b7:=(H1.out.2.2.2.2.1).cell 7 rfl
   have lb:=(H1.out.2.2.2.2.1).lt
   have fzb0:=(H1.out.2.2.2.2.1).frozen 0
   have fzb1:=(H1.out.2.2.2.2.1).frozen 1
   have fzb2:=(H1.out.2.2.2.2.1).frozen 2
   have fzb3:=(H1.out.2.2.2.2.1).frozen 3
   have fzb4:=(H1.out.2.2.2.2.1).frozen 4
   have fzb5:=(H1.out.2.2.2.2.1).frozen 5
   have fzb6:=(H1.out.2.2.2.2.1).frozen 6
   have fzb7:=(H1.out.2.2.2.2.1).frozen 7
   have c0:=(H1.out.2.2.2.2.2).cell 0 rfl
   have c1:=(H1.out.2.2.2.2.2).cell 1 rfl
   have c2:=(H1.out.2.2.2.2.2).cell 2 rfl
   have c3:=(H1.out.2.2.2.2.2).cell 3 rfl
   have c4:=(H1.out.2.2.2.2.2).cell 4 rfl
   have c5:=(H1.out.2.2.2.2.2).cell 5 rfl
   have c6:=(H1.out.2.2.2.2.2).cell 6 rfl
   have c7:=(H1.out.2.2.2.2.2).cell 7 rfl
   have lc:=(H1.out.2.2.2.2.2).lt
   have fzc0:=(H1.out.2.2.2.2.2).frozen 0
   have fzc1:=(H1.out.2.2.2.2.2).frozen 1
   have fzc2:=(H1.out.2.2.2.2.2).frozen 2
   have fzc3:=(H1.out.2.2.2.2.2).frozen 3
   have fzc4:=(H1.out.2.2.2.2.2).frozen 4
   have fzc5:=(H1.out.2.2.2.2.2).frozen 5
   have fzc6:=(H1.out.2.2.2.2.2).frozen 6
   have fzc7:=(H1.out.2.2.2.2.2).frozen 7
   go_wp2_with (go_at_call 168;refine (HCk.out _).mono ?_;intro _)
   refine forgetW (fun U=>Up w U∧Box U (w.heap.size+1) #[.int .i64 (0),.int .i64 (0),.int .i64 (0),.int .i64 (0),.int .i64 (0),.int .i64 (0),.int .i64 (0),.int .i64 (0)] 69∧Box U (w.heap.size+1+1) #[.int .i64 (0),.int .i64 (0),.int .i64 (0),.int .i64 (0),.int .i64 (0),.int .i64 (0),.int .i64 (0),.int .i64 (0)] 69∧Box U p #[.int .i64 (x0),.int .i64 (x1),.int .i64 (y0),.int .i64 (y1),.int .i64 (u0),.int .i64 (m),.int .i64 (v0),.int .i64 (v1)] 69∧Box U q #[.int .i64 (x0),.int .i64 (x1),.int .i64 (y0),.int .i64 (y1),.int .i64 ((m+1)),.int .i64 (u1),.int .i64 (v0),.int .i64 (v1)] 69) ⟨((((H1.out.1.setCell (q:=⟨p,4,none⟩) (by show w.heap.size≤p;omega) _).setCell (q:=⟨p,5,none⟩) (by show w.heap.size≤p;omega) _).setCell (q:=⟨q,4,none⟩) (by show w.heap.size≤q;omega) _).setCell (q:=⟨q,5,none⟩) (by show w.heap.size≤q;omega) _).ext _,((((H1.out.2.2.1.other (by omega) 4 _).other (by omega) 5 _).other (by omega) 4 _).other (by omega) 5 _).ext _,((((H1.out.2.2.2.1.other (by omega) 4 _).other (by omega) 5 _).other (by omega) 4 _).other (by omega) 5 _).ext _,((((H1.out.2.2.2.2.1.set 4 (.int .i64 u0)).set 5 (.int .i64 m)).other hpq 4 _).other hpq 5 _).ext _,((((H1.out.2.2.2.2.2.other hqp 4 _).other hqp 5 _).set 4 (.int .i64 (m+1))).set 5 (.int .i64 u1)).ext _⟩ ?_
   clear H1 HCk a0 a1 a2 a3 a4 a5 a6 a7 la fza0 fza1 fza2 fza3 fza4 fza5 fza6 fza7 b0 b1 b2 b3 b4 b5 b6 b7 lb fzb0 fzb1 fzb2 fzb3 fzb4 fzb5 fzb6 fzb7 c0 c1 c2 c3 c4 c5 c6 c7 lc fzc0 fzc1 fzc2 fzc3 fzc4 fzc5 fzc6 fzc7
   intro V1 h1
   have H2:=hide h1
   clear h1
   have hS0:=hide (show Box V1.drew p #[.int .i64 (x0),.int .i64 (x1),.int .i64 (y0),.int .i64 (y1),.int .i64 (u0),.int .i64 (m),.int .i64 (v0),.int .i64 (v1)] 69∧Box V1.drew q #[.int .i64 (x0),.int .i64 (x1),.int .i64 (y0),.int .i64 (y1),.int .i64 ((m+1)),.int .i64 (u1),.int .i64 (v0),.int .i64 (v1)] 69 from ⟨H2.out.2.2.2.1.drew,H2.out.2.2.2.2.drew⟩)
   refine wp_region_L (fun W'=>Box W' p #[.int .i64 (x0),.int .i64 (x1),.int .i64 (y0),.int .i64 (y1),.int .i64 (u0),.int .i64 (m),.int .i64 (v0),.int .i64 (v1)] 69∧Box W' q #[.int .i64 (x0),.int .i64 (x1),.int .i64 (y0),.int .i64 (y1),.int .i64 ((m+1)),.int .i64 (u1),.int .i64 (v0),.int .i64 (v1)] 69) 4 (by kernel_rfl) ?_
   refine anyL_take 0 (v:=.agg #[.int .i64 (x0),.int .i64 (x1),.int .i64 (y0),.int .i64 (y1),.int .i64 (u0),.int .i64 (m),.int .i64 (v0),.int .i64 (v1)]) rfl (by kernel_rfl) (fun _ _ _ h=>h) (.inl ⟨rfl,fun W' hW'=>by have e0:=Box.cell hW'.1 0 rfl;have e1:=Box.cell hW'.1 1 rfl;have e2:=Box.cell hW'.1 2 rfl;have e3:=Box.cell hW'.1 3 rfl;have e4:=Box.cell hW'.1 4 rfl;have e5:=Box.cell hW'.1 5 rfl;have e6:=Box.cell hW'.1 6 rfl;have e7:=Box.cell hW'.1 7 rfl;simp [go_sem,e0,e1,e2,e3,e4,e5,e6,e7]⟩) hS0.out ?_
   simp only [Act.put,List.setIfInBounds_toArray,List.set_cons_zero,List.set_cons_succ]
   refine anyL_take 1 (v:=.agg #[.int .i64 (x0),.int .i64 (x1),.int .i64 (y0),.int .i64 (y1),.int .i64 ((m+1)),.int .i64 (u1),.int .i64 (v0),.int .i64 (v1)]) rfl (by kernel_rfl) (fun _ _ _ h=>h) (.inl ⟨rfl,fun W' hW'=>by have e0:=Box.cell hW'.2 0 rfl;have e1:=Box.cell hW'.2 1 rfl;have e2:=Box.cell hW'.2 2 rfl;have e3:=Box.cell hW'.2 3 rfl;have e4:=Box.cell hW'.2 4 rfl;have e5:=Box.cell hW'.2 5 rfl;have e6:=Box.cell hW'.2 6 rfl;have e7:=Box.cell hW'.2 7 rfl;simp [go_sem,e0,e1,e2,e3,e4,e5,e6,e7]⟩) hS0.out ?_
   simp only [Act.put,List.setIfInBounds_toArray,List.set_cons_zero,List.set_cons_succ]
   have a0:=(H2.out.2.1).cell 0 rfl
   have a1:=(H2.out.2.1).cell 1 rfl
   have a2:=(H2.out.2.1).cell 2 rfl
   have a3:=(H2.out.2.1).cell 3 rfl
   have a4:=(H2.out.2.1).cell 4 rfl
   have a5:=(H2.out.2.1).cell 5 rfl
   have a6:=(H2.out.2.1).cell 6 rfl
   have a7:=(H2.out.2.1).cell 7 rfl
   have la:=(H2.out.2.1).lt
   have fza0:=(H2.out.2.1).frozen 0
   have fza1:=(H2.out.2.1).frozen 1
   have fza2:=(H2.out.2.1).frozen 2
   have fza3:=(H2.out.2.1).frozen 3
   have fza4:=(H2.out.2.1).frozen 4
   have fza5:=(H2.out.2.1).frozen 5
   have fza6:=(H2.out.2.1).frozen 6
   have fza7:=(H2.out.2.1).frozen 7
   have b0:=(H2.out.2.2.1).cell 0 rfl
   have b1:=(H2.out.2.2.1).cell 1 rfl
   have b2:=(H2.out.2.2.1).cell 2 rfl
   have b3:=(H2.out.2.2.1).cell 3 rfl
   have b4:=(H2.out.2.2.1).cell 4 rfl
   have b5:=(H2.out.2.2.1).cell 5 rfl
   have b6:=(H2.out.2.2.1).cell 6 rfl
   have b7:=(H2.out.2.2.1).cell 7 rfl
   have lb:=(H2.out.2.2.1).lt
   have fzb0:=(H2.out.2.2.1).frozen 0
   have fzb1:=(H2.out.2.2.1).frozen 1
   have fzb2:=(H2.out.2.2.1).frozen 2
   have fzb3:=(H2.out.2.2.1).frozen 3
   have fzb4:=(H2.out.2.2.1).frozen 4
   have fzb5:=(H2.out.2.2.1).frozen 5
   have fzb6:=(H2.out.2.2.1).frozen 6
   have fzb7:=(H2.out.2.2.1).frozen 7
   refine anyL_one (i:=2) (by kernel_rfl) rfl (fun K HK=>?_)
   go_wp2_with fail
   refine HK.out _ _ (fun _=>⟨(H2.out.2.2.2.1.other8 Np1 _ _ _ _ _ _ _ _).drew,(H2.out.2.2.2.2.other8 Nq1 _ _ _ _ _ _ _ _).drew⟩) ?_
   clear HK
   refine anyL_one (i:=3) (by kernel_rfl) rfl (fun K HK=>?_)
   go_wp2_with fail
   refine HK.out _ _ (fun _=>⟨((H2.out.2.2.2.1.other8 Np1 _ _ _ _ _ _ _ _).other8 Np2 _ _ _ _ _ _ _ _).drew,((H2.out.2.2.2.2.other8 Nq1 _ _ _ _ _ _ _ _).other8 Nq2 _ _ _ _ _ _ _ _).drew⟩) ?_
   clear HK
   refine anyL_one (i:=4) (by kernel_rfl) rfl (fun K HK=>?_)
   go_wp2_with fail
   refine HK.out _ _ (fun h=>(h rfl).elim) ?_
   clear HK
   refine anyL_done (by kernel_rfl) ?_
   go_wp2_with fail
   refine forgetW (fun U=>Up w U∧Box U (w.heap.size+1) #[.int .i64 (x0),.int .i64 (x1),.int .i64 (y0),.int .i64 (y1),.int .i64 (u0),.int .i64 (m),.int .i64 (v0),.int .i64 (v1)] 69∧Box U (w.heap.size+1+1) #[.int .i64 (x0),.int .i64 (x1),.int .i64 (y0),.int .i64 (y1),.int .i64 ((m+1)),.int .i64 (u1),.int .i64 (v0),.int .i64 (v1)] 69) ?_ ?_
   · exact ⟨((H2.out.1.set8 (show w.heap.size≤w.heap.size+1 by omega) _ _ _ _ _ _ _ _).set8 (show w.heap.size≤w.heap.size+1+1 by omega) _ _ _ _ _ _ _ _).drew,((H2.out.2.1.put8 (.int .i64 x0) (.int .i64 x1) (.int .i64 y0) (.int .i64 y1) (.int .i64 u0) (.int .i64 m) (.int .i64 v0) (.int .i64 v1)).other8 N12 _ _ _ _ _ _ _ _).drew,((H2.out.2.2.1.other8 N21 _ _ _ _ _ _ _ _).put8 (.int .i64 x0) (.int .i64 x1) (.int .i64 y0) (.int .i64 y1) (.int .i64 (m+1)) (.int .i64 u1) (.int .i64 v0) (.int .i64 v1)).drew⟩
   clear H2 hS0 a0 a1 a2 a3 a4 a5 a6 a7 la fza0 fza1 fza2 fza3 fza4 fza5 fza6 fza7 b0 b1 b2 b3 b4 b5 b6 b7 lb fzb0 fzb1 fzb2 fzb3 fzb4 fzb5 fzb6 fzb7
   rintro U ⟨hu,b1,b2⟩
   have e0:=b1.cell 0 rfl
   have f0:=b2.cell 0 rfl
   have e1:=b1.cell 1 rfl
   have f1:=b2.cell 1 rfl
   have e2:=b1.cell 2 rfl
   have f2:=b2.cell 2 rfl
   have e3:=b1.cell 3 rfl
   have f3:=b2.cell 3 rfl
   have e4:=b1.cell 4 rfl
   have f4:=b2.cell 4 rfl
   have e5:=b1.cell 5 rfl
   have f5:=b2.cell 5 rfl
   have e6:=b1.cell 6 rfl
   have f6:=b2.cell 6 rfl
   have e7:=b1.cell 7 rfl
   have f7:=b2.cell 7 rfl
   refine bodyPost_give hu rfl ⟨_,(by simp [results,Tryz.results124,go_sem,e0,e1,e2,e3,e4,e5,e6,e7,f0,f1,f2,f3,f4,f5,f6,f7];rfl),?_⟩
   rfl
 · have HCk:=hide HC3.out
   have hCB:=HEQ.out.symm
   clear HC0 HC1 HC2 HC3 HEQ
   rw [show cutB ⟨x0,x1,y0,y1,u0,u1,v0,v1⟩ 3=(⟨x0,x1,y0,y1,u0,u1,v0,(v0+v1) / 2⟩,⟨x0,x1,y0,y1,u0,u1,(v0+v1) / 2+1,v1⟩) from rfl] at hCB
   generalize (v0+v1) / 2=m at *
   simp only [Prod.mk.injEq,BoxD.mk.injEq] at hCB
   obtain ⟨⟨rfl,rfl,rfl,rfl,rfl,rfl,rfl,rfl⟩,rfl,rfl,rfl,rfl,rfl,rfl,rfl,rfl⟩:=hCB
   have a0:=(H1.out.2.1).cell 0 rfl
   have a1:=(H1.out.2.1).cell 1 rfl
   have a2:=(H1.out.2.1).cell 2 rfl
   have a3:=(H1.out.2.1).cell 3 rfl
   have a4:=(H1.out.2.1).cell 4 rfl
   have a5:=(H1.out.2.1).cell 5 rfl
   have a6:=(H1.out.2.1).cell 6 rfl
   have a7:=(H1.out.2.1).cell 7 rfl
   have la:=(H1.out.2.1).lt
   have fza0:=(H1.out.2.1).frozen 0
   have fza1:=(H1.out.2.1).frozen 1
   have fza2:=(H1.out.2.1).frozen 2
   have fza3:=(H1.out.2.1).frozen 3
   have fza4:=(H1.out.2.1).frozen 4
   have fza5:=(H1.out.2.1).frozen 5
   have fza6:=(H1.out.2.1).frozen 6
   have fza7:=(H1.out.2.1).frozen 7
   have b0:=(H1.out.2.2.2.2.1).cell 0 rfl
   have b1:=(H1.out.2.2.2.2.1).cell 1 rfl
   have b2:=(H1.out.2.2.2.2.1).cell 2 rfl
   have b3:=(H1.out.2.2.2.2.1).cell 3 rfl
   have b4:=(H1.out.2.2.2.2.1).cell 4 rfl
   have b5:=(H1.out.2.2.2.2.1).cell 5 rfl
   have b6:=(H1.out.2.2.2.2.1).cell 6 rfl
   have b7:=(H1.out.2.2.2.2.1).cell 7 rfl
   have lb:=(H1.out.2.2.2.2.1).lt
   have fzb0:=(H1.out.2.2.2.2.1).frozen 0
   have fzb1:=(H1.out.2.2.2.2.1).frozen 1
   have fzb2:=(H1.out.2.2.2.2.1).frozen 2
   have fzb3:=(H1.out.2.2.2.2.1).frozen 3
   have fzb4:=(H1.out.2.2.2.2.1).frozen 4
   have fzb5:=(H1.out.2.2.2.2.1).frozen 5
   have fzb6:=(H1.out.2.2.2.2.1).frozen 6
   have fzb7:=(H1.out.2.2.2.2.1).frozen 7
   have c0:=(H1.out.2.2.2.2.2).cell 0 rfl
   have c1:=(H1.out.2.2.2.2.2).cell 1 rfl
   have c2:=(H1.out.2.2.2.2.2).cell 2 rfl
   have c3:=(H1.out.2.2.2.2.2).cell 3 rfl
   have c4:=(H1.out.2.2.2.2.2).cell 4 rfl
   have c5:=(H1.out.2.2.2.2.2).cell 5 rfl
   have c6:=(H1.out.2.2.2.2.2).cell 6 rfl
   have c7:=(H1.out.2.2.2.2.2).cell 7 rfl
   have lc:=(H1.out.2.2.2.2.2).lt
   have fzc0:=(H1.out.2.2.2.2.2).frozen 0
   have fzc1:=(H1.out.2.2.2.2.2).frozen 1
   have fzc2:=(H1.out.2.2.2.2.2).frozen 2
   have fzc3:=(H1.out.2.2.2.2.2).frozen 3
   have fzc4:=(H1.out.2.2.2.2.2).frozen 4
   have fzc5:=(H1.out.2.2.2.2.2).frozen 5
   have fzc6:=(H1.out.2.2.2.2.2).frozen 6
   have fzc7:=(H1.out.2.2.2.2.2).frozen 7
   go_wp2_with (go_at_call 168;refine (HCk.out _).mono ?_;intro _)
   refine forgetW (fun U=>Up w U∧Box U (w.heap.size+1) #[.int .i64 (0),.int .i64 (0),.int .i64 (0),.int .i64 (0),.int .i64 (0),.int .i64 (0),.int .i64 (0),.int .i64 (0)] 69∧Box U (w.heap.size+1+1) #[.int .i64 (0),.int .i64 (0),.int .i64 (0),.int .i64 (0),.int .i64 (0),.int .i64 (0),.int .i64 (0),.int .i64 (0)] 69∧Box U p #[.int .i64 (x0),.int .i64 (x1),.int .i64 (y0),.int .i64 (y1),.int .i64 (u0),.int .i64 (u1),.int .i64 (v0),.int .i64 (m)] 69∧Box U q #[.int .i64 (x0),.int .i64 (x1),.int .i64 (y0),.int .i64 (y1),.int .i64 (u0),.int .i64 (u1),.int .i64 ((m+1)),.int .i64 (v1)] 69) ⟨((((H1.out.1.setCell (q:=⟨p,6,none⟩) (by show w.heap.size≤p;omega) _).setCell (q:=⟨p,7,none⟩) (by show w.heap.size≤p;omega) _).setCell (q:=⟨q,6,none⟩) (by show w.heap.size≤q;omega) _).setCell (q:=⟨q,7,none⟩) (by show w.heap.size≤q;omega) _).ext _,((((H1.out.2.2.1.other (by omega) 6 _).other (by omega) 7 _).other (by omega) 6 _).other (by omega) 7 _).ext _,((((H1.out.2.2.2.1.other (by omega) 6 _).other (by omega) 7 _).other (by omega) 6 _).other (by omega) 7 _).ext _,((((H1.out.2.2.2.2.1.set 6 (.int .i64 v0)).set 7 (.int .i64 m)).other hpq 6 _).other hpq 7 _).ext _,((((H1.out.2.2.2.2.2.other hqp 6 _).other hqp 7 _).set 6 (.int .i64 (m+1))).set 7 (.int .i64 v1)).ext _⟩ ?_
   clear H1 HCk a0 a1 a2 a3 a4 a5 a6 a7 la fza0 fza1 fza2 fza3 fza4 fza5 fza6 fza7 b0 b1 b2 b3 b4 b5 b6 b7 lb fzb0 fzb1 fzb2 fzb3 fzb4 fzb5 fzb6 fzb7 c0 c1 c2 c3 c4 c5 c6 c7 lc fzc0 fzc1 fzc2 fzc3 fzc4 fzc5 fzc6 fzc7
   intro V1 h1
   have H2:=hide h1
   clear h1
   have hS0:=hide (show Box V1.drew p #[.int .i64 (x0),.int .i64 (x1),.int .i64 (y0),.int .i64 (y1),.int .i64 (u0),.int .i64 (u1),.int .i64 (v0),.int .i64 (m)] 69∧Box V1.drew q #[.int .i64 (x0),.int .i64 (x1),.int .i64 (y0),.int .i64 (y1),.int .i64 (u0),.int .i64 (u1),.int .i64 ((m+1)),.int .i64 (v1)] 69 from ⟨H2.out.2.2.2.1.drew,H2.out.2.2.2.2.drew⟩)
   refine wp_region_L (fun W'=>Box W' p #[.int .i64 (x0),.int .i64 (x1),.int .i64 (y0),.int .i64 (y1),.int .i64 (u0),.int .i64 (u1),.int .i64 (v0),.int .i64 (m)] 69∧Box W' q #[.int .i64 (x0),.int .i64 (x1),.int .i64 (y0),.int .i64 (y1),.int .i64 (u0),.int .i64 (u1),.int .i64 ((m+1)),.int .i64 (v1)] 69) 4 (by kernel_rfl) ?_
   refine anyL_take 0 (v:=.agg #[.int .i64 (x0),.int .i64 (x1),.int .i64 (y0),.int .i64 (y1),.int .i64 (u0),.int .i64 (u1),.int .i64 (v0),.int .i64 (m)]) rfl (by kernel_rfl) (fun _ _ _ h=>h) (.inl ⟨rfl,fun W' hW'=>by have e0:=Box.cell hW'.1 0 rfl;have e1:=Box.cell hW'.1 1 rfl;have e2:=Box.cell hW'.1 2 rfl;have e3:=Box.cell hW'.1 3 rfl;have e4:=Box.cell hW'.1 4 rfl;have e5:=Box.cell hW'.1 5 rfl;have e6:=Box.cell hW'.1 6 rfl;have e7:=Box.cell hW'.1 7 rfl;simp [go_sem,e0,e1,e2,e3,e4,e5,e6,e7]⟩) hS0.out ?_
   simp only [Act.put,List.setIfInBounds_toArray,List.set_cons_zero,List.set_cons_succ]
   refine anyL_take 1 (v:=.agg #[.int .i64 (x0),.int .i64 (x1),.int .i64 (y0),.int .i64 (y1),.int .i64 (u0),.int .i64 (u1),.int .i64 ((m+1)),.int .i64 (v1)]) rfl (by kernel_rfl) (fun _ _ _ h=>h) (.inl ⟨rfl,fun W' hW'=>by have e0:=Box.cell hW'.2 0 rfl;have e1:=Box.cell hW'.2 1 rfl;have e2:=Box.cell hW'.2 2 rfl;have e3:=Box.cell hW'.2 3 rfl;have e4:=Box.cell hW'.2 4 rfl;have e5:=Box.cell hW'.2 5 rfl;have e6:=Box.cell hW'.2 6 rfl;have e7:=Box.cell hW'.2 7 rfl;simp [go_sem,e0,e1,e2,e3,e4,e5,e6,e7]⟩) hS0.out ?_
   simp only [Act.put,List.setIfInBounds_toArray,List.set_cons_zero,List.set_cons_succ]
   have a0:=(H2.out.2.1).cell 0 rfl
   have a1:=(H2.out.2.1).cell 1 rfl
   have a2:=(H2.out.2.1).cell 2 rfl
   have a3:=(H2.out.2.1).cell 3 rfl
   have a4:=(H2.out.2.1).cell 4 rfl
   have a5:=(H2.out.2.1).cell 5 rfl
   have a6:=(H2.out.2.1).cell 6 rfl
   have a7:=(H2.out.2.1).cell 7 rfl
   have la:=(H2.out.2.1).lt
   have fza0:=(H2.out.2.1).frozen 0
   have fza1:=(H2.out.2.1).frozen 1
   have fza2:=(H2.out.2.1).frozen 2
   have fza3:=(H2.out.2.1).frozen 3
   have fza4:=(H2.out.2.1).frozen 4
   have fza5:=(H2.out.2.1).frozen 5
   have fza6:=(H2.out.2.1).frozen 6
   have fza7:=(H2.out.2.1).frozen 7
   have b0:=(H2.out.2.2.1).cell 0 rfl
   have b1:=(H2.out.2.2.1).cell 1 rfl
   have b2:=(H2.out.2.2.1).cell 2 rfl
   have b3:=(H2.out.2.2.1).cell 3 rfl
   have b4:=(H2.out.2.2.1).cell 4 rfl
   have b5:=(H2.out.2.2.1).cell 5 rfl
   have b6:=(H2.out.2.2.1).cell 6 rfl
   have b7:=(H2.out.2.2.1).cell 7 rfl
   have lb:=(H2.out.2.2.1).lt
   have fzb0:=(H2.out.2.2.1).frozen 0
   have fzb1:=(H2.out.2.2.1).frozen 1
   have fzb2:=(H2.out.2.2.1).frozen 2
   have fzb3:=(H2.out.2.2.1).frozen 3
   have fzb4:=(H2.out.2.2.1).frozen 4
   have fzb5:=(H2.out.2.2.1).frozen 5
   have fzb6:=(H2.out.2.2.1).frozen 6
   have fzb7:=(H2.out.2.2.1).frozen 7
   refine anyL_one (i:=2) (by kernel_rfl) rfl (fun K HK=>?_)
   go_wp2_with fail
   refine HK.out _ _ (fun _=>⟨(H2.out.2.2.2.1.other8 Np1 _ _ _ _ _ _ _ _).drew,(H2.out.2.2.2.2.other8 Nq1 _ _ _ _ _ _ _ _).drew⟩) ?_
   clear HK
   refine anyL_one (i:=3) (by kernel_rfl) rfl (fun K HK=>?_)
   go_wp2_with fail
   refine HK.out _ _ (fun _=>⟨((H2.out.2.2.2.1.other8 Np1 _ _ _ _ _ _ _ _).other8 Np2 _ _ _ _ _ _ _ _).drew,((H2.out.2.2.2.2.other8 Nq1 _ _ _ _ _ _ _ _).other8 Nq2 _ _ _ _ _ _ _ _).drew⟩) ?_
   clear HK
   refine anyL_one (i:=4) (by kernel_rfl) rfl (fun K HK=>?_)
   go_wp2_with fail
   refine HK.out _ _ (fun h=>(h rfl).elim) ?_
   clear HK
   refine anyL_done (by kernel_rfl) ?_
   go_wp2_with fail
   refine forgetW (fun U=>Up w U∧Box U (w.heap.size+1) #[.int .i64 (x0),.int .i64 (x1),.int .i64 (y0),.int .i64 (y1),.int .i64 (u0),.int .i64 (u1),.int .i64 (v0),.int .i64 (m)] 69∧Box U (w.heap.size+1+1) #[.int .i64 (x0),.int .i64 (x1),.int .i64 (y0),.int .i64 (y1),.int .i64 (u0),.int .i64 (u1),.int .i64 ((m+1)),.int .i64 (v1)] 69) ?_ ?_
   · exact ⟨((H2.out.1.set8 (show w.heap.size≤w.heap.size+1 by omega) _ _ _ _ _ _ _ _).set8 (show w.heap.size≤w.heap.size+1+1 by omega) _ _ _ _ _ _ _ _).drew,((H2.out.2.1.put8 (.int .i64 x0) (.int .i64 x1) (.int .i64 y0) (.int .i64 y1) (.int .i64 u0) (.int .i64 u1) (.int .i64 v0) (.int .i64 m)).other8 N12 _ _ _ _ _ _ _ _).drew,((H2.out.2.2.1.other8 N21 _ _ _ _ _ _ _ _).put8 (.int .i64 x0) (.int .i64 x1) (.int .i64 y0) (.int .i64 y1) (.int .i64 u0) (.int .i64 u1) (.int .i64 (m+1)) (.int .i64 v1)).drew⟩
   clear H2 hS0 a0 a1 a2 a3 a4 a5 a6 a7 la fza0 fza1 fza2 fza3 fza4 fza5 fza6 fza7 b0 b1 b2 b3 b4 b5 b6 b7 lb fzb0 fzb1 fzb2 fzb3 fzb4 fzb5 fzb6 fzb7
   rintro U ⟨hu,b1,b2⟩
   have e0:=b1.cell 0 rfl
   have f0:=b2.cell 0 rfl
   have e1:=b1.cell 1 rfl
   have f1:=b2.cell 1 rfl
   have e2:=b1.cell 2 rfl
   have f2:=b2.cell 2 rfl
   have e3:=b1.cell 3 rfl
   have f3:=b2.cell 3 rfl
   have e4:=b1.cell 4 rfl
   have f4:=b2.cell 4 rfl
   have e5:=b1.cell 5 rfl
   have f5:=b2.cell 5 rfl
   have e6:=b1.cell 6 rfl
   have f6:=b2.cell 6 rfl
   have e7:=b1.cell 7 rfl
   have f7:=b2.cell 7 rfl
   refine bodyPost_give hu rfl ⟨_,(by simp [results,Tryz.results124,go_sem,e0,e1,e2,e3,e4,e5,e6,e7,f0,f1,f2,f3,f4,f5,f6,f7];rfl),?_⟩
   rfl
end Go.Proofs.YteafglginnonnaaGreat
/- A list at the end of another one; parts of lists. Conditions: what lies in memory. -/
namespace Go.Proofs.YteafglginnonnaaGreat
open Go.RowKit Go.Shelf
theorem Own.one {α:Type} {T:Rw α} {e:TypeId} {base:Nat} {w:World} {g:Nat} {x:α} (hB:Box w g (T.f x).toArray e) (hg:base≤g):Own T e base w (.slice (some ⟨g,0,none⟩) 1 1) [x]:=by
 unfold Own
 have h1:T.flat [x]=T.f x:=by unfold Rw.flat;simp
 rw [h1]
 exact ⟨by simp [T.fk],.inr ⟨g,1,(T.f x).toArray,rfl,hg,hB,Nat.le_refl _,by unfold maxLen;decide,by simp [T.fk],by simp [← T.fk x]⟩⟩
theorem Own.cap {α:Type} {T:Rw α} {e:TypeId} {base:Nat} {w:World} {a:Option Addr} {n c:Nat} {l:List α} (h:Own T e base w (.slice a n c) l):n≤c∨l=[]:=by
 rcases h.2 with ⟨_,h0⟩ | ⟨g,cap,cur,hv,_,_,h1,_⟩
 · exact .inr (List.length_eq_zero_iff.1 h0)
 · simp at hv
   obtain ⟨_,h2,h3⟩:=hv
   exact .inl (by rw [h2,h3];exact h1)
section
variable {P:Program} {ops:Array Oper} {rest:List Oper} {o:Oper} {a:Act} {Q:Exit→Act→World→Prop}
theorem wpList_more {α:Type} {T:Rw α} {t e:TypeId} {bytes:Nat} (hE:ElemOk P T t e bytes) (hgd:o.guard=none) (s x:Operand) (ho:o.op=.call { callee:=.builtin .append,args:=#[s,x],argTypes:=#[t,t] })
 {w0 W:World} (hu:Up w0 W) {base:Nat} (hb0:w0.heap.size≤base) (hbW:base≤W.heap.size) {v:Value} {l:List α} (hs:a.eval s=v) (hown:Own T e base W v l) {K:Nat→Prop} {m:List α} {n c:Nat} {ta:Option Addr} (hx:a.eval x=.slice ta n c) (hL:Lst T K W (.slice ta n c) m) (hn:l.length+m.length≤100000) (hby:bytes≤1000)
 (h:∀ v' W',Up w0 W'→Own T e base W' v' (l++m)→W.grownBy W' v.ownBlock→wpList P ops Q rest (a.put o.dst v') W'):wpList P ops Q (o::rest) a W:=by
 obtain ⟨i,z,h1,h2,h3,h4,h5⟩:=hE.info
 obtain ⟨sa,sc,rfl⟩:=hown.form
 have hl:n=m.length:=by
  obtain ⟨a',c',e1,_⟩:=hL
  simp at e1
  exact e1.2.1
 subst hl
 by_cases h0:m=[]
 · subst h0
   have hsrc:Src P i.size t (.slice ta 0 c) 0 [] W:=by
    cases ta with
    | none=>exact Src.ofNil W hE.under c
    | some ad=>exact Src.ofSlice W hE.under ad 0 c [] (by simp) (fun j u hj=>by simp at hj) (fun _ h=>by cases h)
   have hcap:l.length≤sc:=by
    rcases hown.cap with h | h
    · exact h
    · subst h;simp
   have hr:=run_append_nothing (P:=P) W t t o.type e i hE.under h1 sa l.length sc hcap (.slice ta 0 c) hsrc
   refine wpList_plain hgd fun K' hK=>?_
   unfold Oper.wp execOp
   simp only [ho,resolve,invoke,builtin,Sem.run_bind,Sem.run_pure,Result.andThen_ok,List.map_toArray,List.map_cons,List.map_nil,hs,hx]
   simp only [List.length_nil] at *
   simp only [hr]
   exact hK _ _ (h _ W hu (by rw [List.append_nil];exact hown) (grown_refl _ _))
 · obtain ⟨a',c',e1,hm,h3'⟩:=hL
   obtain ⟨b,o',rfl,_⟩:=h3' h0
   simp at e1
   obtain ⟨rfl,rfl⟩:=e1
   have hL2:Lst T K W (.slice (some ⟨b,o',none⟩) m.length c) m:=⟨_,_,rfl,hm,h3'⟩
   have hpos:0<m.length:=List.length_pos_iff.2 h0
   refine wpList_append_lies _ hgd s x t ho base e i z T.k bytes hE.under h1 h2 h3 h4 h5 T.kp (.slice sa l.length sc) l.length (T.flat l) hs hown ⟨b,o',none⟩ m.length c (T.flat m) hx (T.flat_len m) hL2.news (T.flat_one m) hpos (by unfold maxLen;omega) ?_ hbW _ rfl ?_
   · have:(l.length+m.length)*bytes≤100000*1000:=Nat.mul_le_mul (by omega) hby
     omega
   · intro g cap w' hown' hgrow hat hlt
     refine h _ w' (.of_below (hu.below.grown hgrow hu.below.size (fun k e=>by have:=hown.lt k e;omega))) ?_ hgrow
     unfold Own
     rw [List.length_append,show T.flat (l++m)=T.flat l++T.flat m by unfold Rw.flat;simp]
     exact hown'
end
theorem Lst.take {α:Type} {T:Rw α} {K:Nat→Prop} {w:World} {a:Option Addr} {n c:Nat} {l:List α} (h:Lst T K w (.slice a n c) l) {j:Nat} (hj:j≤l.length) (c':Nat):Lst T K w (.slice a j c') (l.take j):=by
 obtain ⟨a',c0,h1,h2,h3⟩:=h
 simp at h1
 obtain ⟨rfl,rfl,rfl⟩:=h1
 refine ⟨a,c',by simp [Nat.min_eq_left hj],by simp;omega,fun h0=>?_⟩
 obtain ⟨b,o,e1,e2,e3,e4⟩:=h3 (by intro e;subst e;simp at h0)
 refine ⟨b,o,e1,e2,e3,fun i x hx=>e4 i x ?_⟩
 rw [List.getElem?_take] at hx
 split at hx
 · exact hx
 · cases hx
theorem Lst.drop {α:Type} {T:Rw α} {K:Nat→Prop} {w:World} {b o n c:Nat} {l:List α} (h:Lst T K w (.slice (some ⟨b,o,none⟩) n c) l) (j:Nat) (c':Nat):Lst T K w (.slice (some ⟨b,o+j*T.k,none⟩) (n - j) c') (l.drop j):=by
 obtain ⟨a',c0,h1,h2,h3⟩:=h
 simp at h1
 obtain ⟨rfl,rfl,rfl⟩:=h1
 refine ⟨some ⟨b,o+j*T.k,none⟩,c',by simp,by simp;omega,fun h0=>?_⟩
 obtain ⟨b',o',e1,e2,e3,e4⟩:=h3 (by intro e;subst e;simp at h0)
 simp at e1
 obtain ⟨rfl,rfl⟩:=e1
 refine ⟨b,o+j*T.k,rfl,e2,e3,fun i x hx=>?_⟩
 rw [List.getElem?_drop] at hx
 obtain ⟨vs,f1,f2,f3⟩:=e4 (j+i) x hx
 refine ⟨vs,f1,f2,fun q u hu=>?_⟩
 have:=f3 q u hu
 rw [Nat.add_mul] at this
 rw [← this]
 congr 2
 omega
end Go.Proofs.YteafglginnonnaaGreat
