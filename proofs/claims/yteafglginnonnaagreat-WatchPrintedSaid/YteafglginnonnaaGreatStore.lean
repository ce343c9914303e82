/- Several texts in one. -/
import Derived.Test.YteafglginnonnaaGreatForceM
import Derived.Test.YteafglginnonnaaGreatSkyB
import Derived.Test.YteafglginnonnaaGreatRingF
/- The small functions of package force: errors of drifts and questions, operations on spans, vectors to a body. Conditions: what lies in memory. -/
set_option linter.unusedVariables false
set_option linter.unusedSimpArgs false
namespace Go.Proofs.YteafglginnonnaaGreat
set_option maxHeartbeats 2000000
set_option maxRecDepth 100000
open Go.RowKit Go.Shelf
theorem fwithin_any (n lo hi:Int) (w:World):Gives Tryz.prog 156 #[.int .i64 n,.int .i64 lo,.int .i64 hi] w (.bool (withinB n lo hi)):=by
 (unfold Gives;go_enter Tryz.func156,Tryz.ntmps156)
 go_wp2
 all_goals go_ret
 all_goals refine ⟨ret_bool ?_,Up.refl _⟩
 · rename_i h;simp [withinB,h]
 · rename_i h;simp [withinB];omega
theorem fbounded_any (a b lo hi:Int) (w:World):Gives Tryz.prog 155 #[.agg #[.int .i64 a,.int .i64 b],.int .i64 lo,.int .i64 hi] w (.int .i64 (boundedE a b lo hi)):=by
 (unfold Gives;go_enter Tryz.func155,Tryz.ntmps155)
 go_wp2
 all_goals (go_ret;refine ⟨ret_int ?_,Up.go⟩)
 all_goals (go_light;first|(simp_all [boundedE];done)|(simp_all [boundedE];omega)|(simp_all [boundedE];repeat' split;all_goals (first|(simp_all;done)|omega|(simp_all;omega))))
theorem fdrift_any (a b c d g:Int) (w:World):Gives Tryz.prog 114 #[.agg #[.int .i64 a,.int .i64 b,.int .i64 c,.int .i64 d,.int .i64 g]] w (.int .i64 (driftE (a,b) (c,d) g)):=by
 (unfold Gives;go_enter Tryz.func114,Tryz.ntmps114)
 go_wp2_with (first|(go_at_call 155;refine (fbounded_any _ _ _ _ _).mono ?_;intro _)|(go_at_call 156;refine (fwithin_any _ _ _ _).mono ?_;intro _))
 all_goals (go_ret;refine ⟨ret_int ?_,Up.go⟩)
 all_goals (go_light;first|(simp_all [driftE];done)|(simp_all [driftE];omega)|(simp_all [driftE];repeat' split;all_goals (first|(simp_all;done)|omega|(simp_all;omega))))
theorem fone_any (n:Int) (w:World):Gives Tryz.prog 193 #[.int .i64 n] w (.agg #[.int .i64 n,.int .i64 n]):=by
 (unfold Gives;go_enter Tryz.func193,Tryz.ntmps193)
 go_wp2
 all_goals (refine bodyPost_give Up.go rfl ⟨_,(by simp [results,Tryz.results193,go_sem];rfl),?_⟩)
 all_goals rfl
theorem falone_any (x y:Int) (w:World):Gives Tryz.prog 158 #[.agg #[.int .i64 x,.int .i64 y]] w (.agg #[.int .i64 x,.int .i64 x,.int .i64 y,.int .i64 y]):=by
 (unfold Gives;go_enter Tryz.func158,Tryz.ntmps158)
 go_wp2_with fail
 try ((first | with_reducible refine wp_region_ext_tail2 1 (by kernel_rfl) (by kernel_rfl) ?_ | refine wp_region_ext_tail 1 (by kernel_rfl) (by kernel_rfl) ?_);simp only [List.length_cons,List.length_nil,Nat.reduceAdd,Nat.reduceSub,List.take_succ_cons,List.take_zero,List.drop_succ_cons,List.drop_zero];(repeat (go_big_quiet_step ((go_at_call 193;with_reducible exact Gives.inRegion (fone_any _ _)))));refine wpQuiet_nil ?_;intro _ hw';obtain ⟨_,hw''⟩:=hw';subst hw'')
 go_wp2_with (go_at_call 193;refine (fone_any _ _).mono ?_;intro _)
 all_goals (refine bodyPost_give Up.go rfl ⟨_,(by simp [results,Tryz.results158,go_sem];rfl),?_⟩)
 all_goals rfl
theorem fsub_any (a b:Sp) (w:World):Gives Tryz.prog 248 #[.agg #[.int .i64 a.1,.int .i64 a.2],.agg #[.int .i64 b.1,.int .i64 b.2]] w (.agg #[.int .i64 (subP a b).1,.int .i64 (subP a b).2]):=by
 (unfold Gives;go_enter Tryz.func248,Tryz.ntmps248)
 go_wp2_with (go_at_call 259;refine (sub_any _ _ _ _ _).mono ?_;intro _)
 all_goals (refine bodyPost_give Up.go rfl ⟨_,(by simp [results,Tryz.results248,go_sem];rfl),?_⟩)
 all_goals rfl
theorem fmul_any (a b:Sp) (w:World):Gives Tryz.prog 235 #[.agg #[.int .i64 a.1,.int .i64 a.2],.agg #[.int .i64 b.1,.int .i64 b.2]] w (.agg #[.int .i64 (mulP a b).1,.int .i64 (mulP a b).2]):=by
 (unfold Gives;go_enter Tryz.func235,Tryz.ntmps235)
 go_wp2_with (go_at_call 253;refine (mul_any _ _ _ _ _).mono ?_;intro _)
 all_goals (refine bodyPost_give Up.go rfl ⟨_,(by simp [results,Tryz.results235,go_sem];rfl),?_⟩)
 all_goals rfl
theorem fquot_any (a b:Sp) (w:World):Gives Tryz.prog 234 #[.agg #[.int .i64 a.1,.int .i64 a.2],.agg #[.int .i64 b.1,.int .i64 b.2]] w (.agg #[.int .i64 (quotP a b).1,.int .i64 (quotP a b).2]):=by
 (unfold Gives;go_enter Tryz.func234,Tryz.ntmps234)
 go_wp2_with (go_at_call 252;refine (quot_any _ _ _ _ _).mono ?_;intro _)
 all_goals (refine bodyPost_give Up.go rfl ⟨_,(by simp [results,Tryz.results234,go_sem];rfl),?_⟩)
 all_goals rfl
theorem fsquare_any (a:Sp) (w:World):Gives Tryz.prog 245 #[.agg #[.int .i64 a.1,.int .i64 a.2]] w (.agg #[.int .i64 (squareP a).1,.int .i64 (squareP a).2]):=by
 (unfold Gives;go_enter Tryz.func245,Tryz.ntmps245)
 go_wp2_with (go_at_call 257;refine (square_any _ _ _).mono ?_;intro _)
 all_goals (refine bodyPost_give Up.go rfl ⟨_,(by simp [results,Tryz.results245,go_sem];rfl),?_⟩)
 all_goals rfl
theorem fsub4 (a b c d:Int) (w:World):Gives Tryz.prog 248 #[.agg #[.int .i64 a,.int .i64 b],.agg #[.int .i64 c,.int .i64 d]] w (.agg #[.int .i64 (subP (a,b) (c,d)).1,.int .i64 (subP (a,b) (c,d)).2]):=fsub_any (a,b) (c,d) w
theorem fmul4 (a b c d:Int) (w:World):Gives Tryz.prog 235 #[.agg #[.int .i64 a,.int .i64 b],.agg #[.int .i64 c,.int .i64 d]] w (.agg #[.int .i64 (mulP (a,b) (c,d)).1,.int .i64 (mulP (a,b) (c,d)).2]):=fmul_any (a,b) (c,d) w
theorem fquot4 (a b c d:Int) (w:World):Gives Tryz.prog 234 #[.agg #[.int .i64 a,.int .i64 b],.agg #[.int .i64 c,.int .i64 d]] w (.agg #[.int .i64 (quotP (a,b) (c,d)).1,.int .i64 (quotP (a,b) (c,d)).2]):=fquot_any (a,b) (c,d) w
theorem fsquare2 (a b:Int) (w:World):Gives Tryz.prog 245 #[.agg #[.int .i64 a,.int .i64 b]] w (.agg #[.int .i64 (squareP (a,b)).1,.int .i64 (squareP (a,b)).2]):=fsquare_any (a,b) w
def RPair (_:World) (p:Sp) (vs:List Value):Prop:=vs=[.int .i64 p.1,.int .i64 p.2]
abbrev Prs:=Lies (fun _=>True) 2 RPair
theorem Prs.keeps {w w':World} {v:Value} {l:List Sp} (h:Prs w v l) (hu:Up w w'):Prs w' v l:=Lies.keeps h (hu.keeps _) fun _ _ h=>h
theorem Prs.at {w:World} {a:Option Addr} {n c:Nat} {l:List Sp} (h:Prs w (.slice a n c) l):n=l.length∧n≤9223372036854775807 ∧
 ∀ i,i<n→∃ b o p,a=some ⟨b,o,none⟩∧b<w.heap.size∧l[i]?=some p∧w.cell? ⟨b,o+i*2,none⟩=some (.int .i64 p.1)∧w.cell? ⟨b,o+i*2+1,none⟩=some (.int .i64 p.2):=by
 obtain ⟨a',c',h1,h2,h3⟩:=h
 simp at h1
 obtain ⟨rfl,rfl,rfl⟩:=h1
 refine ⟨rfl,h2,fun i hi=>?_⟩
 obtain ⟨b,o,rfl,hK,hb,hc⟩:=h3 (by intro e;subst e;simp at hi)
 obtain ⟨vs,rfl,_,hx⟩:=hc i l[i] (List.getElem?_eq_getElem hi)
 exact ⟨b,o,l[i],rfl,hb,List.getElem?_eq_getElem hi,hx 0 _ rfl,hx 1 _ rfl⟩
theorem Prs.two {w:World} {B:Nat} {T:TypeId} {a b:Sp} (hb:Box w B #[.int .i64 a.1,.int .i64 a.2,.int .i64 b.1,.int .i64 b.2] T):Prs w (.slice (some ⟨B,0,none⟩) 2 2) [a,b]:=by
 refine ⟨_,_,rfl,by simp,fun _=>⟨B,0,rfl,trivial,hb.lt,fun i x hx=>?_⟩⟩
 match i,hx with
 | 0,hx =>
  cases hx
  refine ⟨_,rfl,rfl,fun j u hu=>?_⟩
  match j,hu with
  | 0,hu=>cases hu;exact hb.cell 0 rfl
  | 1,hu=>cases hu;exact hb.cell 1 rfl
 | 1,hx =>
  cases hx
  refine ⟨_,rfl,rfl,fun j u hu=>?_⟩
  match j,hu with
  | 0,hu=>cases hu;exact hb.cell 2 rfl
  | 1,hu=>cases hu;exact hb.cell 3 rfl
theorem take_fold {α β:Type} (f:β→α→β) (z:β) (l:List α) (k:Nat) (p:α) (hp:l[k]?=some p):(l.take (k+1)).foldl f z=f ((l.take k).foldl f z) p:=by
 rw [List.take_add_one,hp];simp
theorem fadd_any {a:Option Addr} {n c:Nat} {l:List Sp} (w:World) (hl:Prs w (.slice a n c) l) :
 Gives Tryz.prog 216 #[.slice a n c] w (.agg #[.int .i64 (l.foldl addP (0,0)).1,.int .i64 (l.foldl addP (0,0)).2]):=by
 have hn:=(Prs.at hl).1
 have hm:=(Prs.at hl).2.1
 have HL:=hide (And.intro hl hn)
 clear hl hn
 (unfold Gives;go_enter Tryz.func216,Tryz.ntmps216)
 go_wp2
 go_loopw [8] (fun s8 wr=>∃ (k:Nat) (o:Sp),k≤n∧s8=.int .i64 k∧Up w wr∧Hid ((l.take k).foldl addP (0,0)=o)∧Box wr w.heap.size #[.int .i64 0,.int .i64 0] 31∧Box wr (w.heap.size+1) #[.int .i64 o.1,.int .i64 o.2] 31) (fun s8 _=>n - (intOf s8).toNat)
 case atStart=>exact ⟨0,(0,0),by omega,rfl,Up.go,hide rfl,Box.alloc (Box.mk rfl) _,Box.mk (by simp)⟩
 case round =>
  obtain ⟨k,o,hk,rfl,hu,ho,hb1,hb2⟩:=hrel
  obtain ⟨z0,z1⟩:=hb1.c2
  obtain ⟨y0,y1⟩:=hb2.c2
  obtain ⟨fz0,fz1⟩:=hb1.f2
  obtain ⟨fy0,fy1⟩:=hb2.f2
  have l1:=hb1.lt
  have l2:=hb2.lt
  have HB:=hide (And.intro hu (And.intro hb1 hb2))
  by_cases hlt:k<n
  · obtain ⟨b,of,p,rfl,hbw,hp,hc0,hc1⟩:=(Prs.at (HL.out.1.keeps hu)).2.2 k hlt
    have hkb:decide ((k:Int)<n)=true:=by simp;omega
    have HP:=hide hp
    clear hp hu hb1 hb2 z0 z1 fz0 fz1
    go_wp2_with (go_at_call 233;refine (add_any _ _ _ _ _).mono ?_;intro _)
    refine ⟨⟨k+1,addP o p,by omega,by go_num,(Up.via HB.out.1),hide (by rw [take_fold _ _ _ _ _ HP.out,ho.out]),(Box.via HB.out.2.1),?_⟩,by simp [intOf];omega⟩
    exact (((HB.out.2.2.set 0 (.int .i64 (addP o p).1)).set 1 (.int .i64 (addP o p).2)).alloc _).ext _
  · have hkb:decide ((k:Int)<n)=false:=by simp;omega
    obtain rfl:k=n:=by omega
    clear hu hb1 hb2
    go_wp2
    have q:=(HB.out.2.1.set 0 (.int .i64 o.1)).set 1 (.int .i64 o.2)
    have q0:=q.cell 0 (v:=.int .i64 o.1) rfl
    have q1:=q.cell 1 (v:=.int .i64 o.2) rfl
    have ho':=ho.out
    rw [List.take_of_length_le (by rw [← HL.out.2];exact Nat.le_refl _)] at ho'
    (refine bodyPost_give (Up.via HB.out.1) rfl ⟨_,(by simp [results,Tryz.results216,go_sem,q0,q1];rfl),?_⟩)
    rw [ho']
theorem ixsp (x0 x1 y0 y1:Int) (w:World):(Instr.index 267 (.agg #[.int .i64 x0,.int .i64 x1,.int .i64 y0,.int .i64 y1]) (.int .i64 0)).run Tryz.prog w=.ok (.agg #[.int .i64 x0,.int .i64 x1]) w:=by kernel_rfl
theorem ixsp1 (x0 x1 y0 y1:Int) (w:World):(Instr.index 267 (.agg #[.int .i64 x0,.int .i64 x1,.int .i64 y0,.int .i64 y1]) (.int .i64 1)).run Tryz.prog w=.ok (.agg #[.int .i64 y0,.int .i64 y1]) w:=by kernel_rfl
theorem fasked_any {K:Nat→Prop} {w:World} {a:Option Addr} {n c:Nat} {bs:List Bod} {home:Int} (hl:Bods K w (.slice a n c) bs) (hh:I64 home) (l h:Sp) (g t:Int) (x0 x1 y0 y1:Int) :
 Gives Tryz.prog 188 #[.agg #[.slice a n c,.int .i64 home],.agg #[.int .i64 l.1,.int .i64 l.2,.int .i64 h.1,.int .i64 h.2,.int .i64 g],.int .i64 t,.agg #[.int .i64 x0,.int .i64 x1,.int .i64 y0,.int .i64 y1]] w
  (.int .i64 (askedE bs home l h g t (x0,x1,y0,y1))):=by
 have HW:=hide (fun W (hu:Up w W)=>skworld_any (hl.keeps (hu.keeps K)) hh)
 have HD:=hide (fun W=>fdrift_any l.1 l.2 h.1 h.2 g W)
 have HT:=hide (fun W=>fwithin_any t 0 1073741824 W)
 have HA:=hide (fun W=>checkarea_any x0 x1 y0 y1 W)
 clear hl
 unfold askedE
 by_cases e1:worldE bs home=0
 rotate_left
 · rw [if_neg e1]
   have e1b:(worldE bs home != 0)=true:=by simp [e1]
   clear e1
   (unfold Gives;go_enter Tryz.func188,Tryz.ntmps188)
   go_wp2_with (go_at_call 81;refine (HW.out _ Up.go).mono ?_;intro _)
   go_ret
   exact ⟨rfl,Up.go⟩
 rw [if_pos e1]
 rw [e1] at HW
 clear e1
 by_cases e2:driftE l h g=0
 rotate_left
 · rw [if_neg e2]
   have e2b:(driftE l h g != 0)=true:=by simp [e2]
   clear e2
   (unfold Gives;go_enter Tryz.func188,Tryz.ntmps188)
   go_wp2_with (first|(go_at_call 81;refine (HW.out _ Up.go).mono ?_;intro _)|(go_at_call 114;refine (HD.out _).mono ?_;intro _))
   go_ret
   exact ⟨rfl,Up.go⟩
 rw [if_pos e2]
 rw [e2] at HD
 clear e2
 rcases e3:withinB t 0 1073741824 with _ | _
 · rw [e3] at HT
   clear e3
   simp only [Bool.false_eq_true,if_false]
   (unfold Gives;go_enter Tryz.func188,Tryz.ntmps188)
   go_wp2_with (first|(go_at_call 81;refine (HW.out _ Up.go).mono ?_;intro _)|(go_at_call 114;refine (HD.out _).mono ?_;intro _)|(go_at_call 156;refine (HT.out _).mono ?_;intro _))
   go_ret
   exact ⟨rfl,Up.go⟩
 rw [e3] at HT
 clear e3
 simp only [if_true]
 by_cases e4:areaE x0 x1 y0 y1=0
 rotate_left
 · rw [if_neg e4]
   have e4b:(areaE x0 x1 y0 y1 != 0)=true:=by simp [e4]
   clear e4
   (unfold Gives;go_enter Tryz.func188,Tryz.ntmps188)
   go_wp2_with (first|(go_at_call 81;refine (HW.out _ Up.go).mono ?_;intro _)|(go_at_call 114;refine (HD.out _).mono ?_;intro _)|(go_at_call 156;refine (HT.out _).mono ?_;intro _)|(go_at_call 212;refine (HA.out _).mono ?_;intro _))
   go_ret
   exact ⟨rfl,Up.go⟩
 rw [if_pos e4]
 rw [e4] at HA
 clear e4
 have i0:=fun w=>ixsp x0 x1 y0 y1 w
 have i1:=fun w=>ixsp1 x0 x1 y0 y1 w
 by_cases hx0:x0 < -33554432
 · rw [if_neg (by simp [limB];omega)]
   (unfold Gives;go_enter Tryz.func188,Tryz.ntmps188)
   go_wp2_with (first|(go_at_call 81;refine (HW.out _ Up.go).mono ?_;intro _)|(go_at_call 114;refine (HD.out _).mono ?_;intro _)|(go_at_call 156;refine (HT.out _).mono ?_;intro _)|(go_at_call 212;refine (HA.out _).mono ?_;intro _))
   refine wp_loop_rounds 3 ?_
   rw [rounds_succ]
   go_wp2
   go_ret
   exact ⟨rfl,Up.go⟩
 by_cases hx1:33554432<x1
 · rw [if_neg (by simp [limB];omega)]
   (unfold Gives;go_enter Tryz.func188,Tryz.ntmps188)
   go_wp2_with (first|(go_at_call 81;refine (HW.out _ Up.go).mono ?_;intro _)|(go_at_call 114;refine (HD.out _).mono ?_;intro _)|(go_at_call 156;refine (HT.out _).mono ?_;intro _)|(go_at_call 212;refine (HA.out _).mono ?_;intro _))
   refine wp_loop_rounds 3 ?_
   rw [rounds_succ]
   go_wp2
   go_ret
   exact ⟨rfl,Up.go⟩
 by_cases hy0:y0 < -33554432
 · rw [if_neg (by simp [limB];omega)]
   (unfold Gives;go_enter Tryz.func188,Tryz.ntmps188)
   go_wp2_with (first|(go_at_call 81;refine (HW.out _ Up.go).mono ?_;intro _)|(go_at_call 114;refine (HD.out _).mono ?_;intro _)|(go_at_call 156;refine (HT.out _).mono ?_;intro _)|(go_at_call 212;refine (HA.out _).mono ?_;intro _))
   refine wp_loop_rounds 3 ?_
   rw [rounds_succ]
   go_wp2
   rw [rounds_succ]
   go_wp2
   go_ret
   exact ⟨rfl,Up.go⟩
 by_cases hy1:33554432<y1
 · rw [if_neg (by simp [limB];omega)]
   (unfold Gives;go_enter Tryz.func188,Tryz.ntmps188)
   go_wp2_with (first|(go_at_call 81;refine (HW.out _ Up.go).mono ?_;intro _)|(go_at_call 114;refine (HD.out _).mono ?_;intro _)|(go_at_call 156;refine (HT.out _).mono ?_;intro _)|(go_at_call 212;refine (HA.out _).mono ?_;intro _))
   refine wp_loop_rounds 3 ?_
   rw [rounds_succ]
   go_wp2
   rw [rounds_succ]
   go_wp2
   go_ret
   exact ⟨rfl,Up.go⟩
 rw [if_pos (by simp [limB];omega)]
 (unfold Gives;go_enter Tryz.func188,Tryz.ntmps188)
 go_wp2_with (first|(go_at_call 81;refine (HW.out _ Up.go).mono ?_;intro _)|(go_at_call 114;refine (HD.out _).mono ?_;intro _)|(go_at_call 156;refine (HT.out _).mono ?_;intro _)|(go_at_call 212;refine (HA.out _).mono ?_;intro _))
 refine wp_loop_rounds 3 ?_
 rw [rounds_succ]
 go_wp2
 rw [rounds_succ]
 go_wp2
 rw [rounds_succ]
 go_wp2
 go_ret
 exact ⟨rfl,Up.go⟩
theorem fedge_any (mu r:Int) (tv:Value) (x y:Int) (r0:0≤r) (r1:r≤1048576) (w:World):Gives Tryz.prog 246 #[.agg #[.int .i64 mu,.int .i64 r,tv,.int .i64 x,.int .i64 y]] w (.int .i64 (edgeV r)):=by
 have h1:0≤r*r:=Int.mul_nonneg r0 r0
 have h2:r*r≤1099511627776:=by have:=Int.mul_le_mul r1 r1 r0 (by omega);omega
 (unfold Gives;go_enter Tryz.func246,Tryz.ntmps246)
 go_wp2
 try ((first | with_reducible refine wp_region_ext2 (by kernel_rfl) (by kernel_rfl) ?_ | refine wp_region_ext (by kernel_rfl) (by kernel_rfl) ?_);(repeat (go_big_quiet_step (fail)));refine wpQuiet_nil ?_;intro _ hw';obtain ⟨_,hw''⟩:=hw';subst hw'')
 go_wp2
 go_ret
 exact ⟨ret_int (by unfold edgeV;omega),Up.go⟩
theorem fto4 (mu r:Int) (tv:Value) (px py a b c d:Int) (w:World):Gives Tryz.prog 231 #[.agg #[.int .i64 mu,.int .i64 r,tv,.int .i64 px,.int .i64 py],.agg #[.int .i64 a,.int .i64 b,.int .i64 c,.int .i64 d]] w
 (.agg #[.int .i64 (subP (px,px) (a,b)).1,.int .i64 (subP (px,px) (a,b)).2,.int .i64 (subP (py,py) (c,d)).1,.int .i64 (subP (py,py) (c,d)).2]):=by
 (unfold Gives;go_enter Tryz.func231,Tryz.ntmps231)
 go_wp2_with fail
 ((first | with_reducible refine wp_region_ext_tail2 1 (by kernel_rfl) (by kernel_rfl) ?_ | refine wp_region_ext_tail 1 (by kernel_rfl) (by kernel_rfl) ?_);simp only [List.length_cons,List.length_nil,Nat.reduceAdd,Nat.reduceSub,List.take_succ_cons,List.take_zero,List.drop_succ_cons,List.drop_zero];(repeat (go_big_quiet_step ((first | (go_at_call 193;with_reducible exact Gives.inRegion (fone_any _ _)) | (go_at_call 248;with_reducible exact Gives.inRegion (fsub4 _ _ _ _ _))))));refine wpQuiet_nil ?_;intro _ hw';obtain ⟨_,hw''⟩:=hw';subst hw'')
 go_wp2
 (refine bodyPost_give Up.go rfl ⟨_,(by simp [results,Tryz.results231,go_sem];rfl),?_⟩)
 rfl
theorem fto_any (mu r:Int) (tv:Value) (p:Sp) (a:Ar) (w:World):Gives Tryz.prog 231 #[.agg #[.int .i64 mu,.int .i64 r,tv,.int .i64 p.1,.int .i64 p.2],.agg #[.int .i64 a.1,.int .i64 a.2.1,.int .i64 a.2.2.1,.int .i64 a.2.2.2]] w (.agg #[.int .i64 (toP p a).1,.int .i64 (toP p a).2.1,.int .i64 (toP p a).2.2.1,.int .i64 (toP p a).2.2.2]):=fto4 mu r tv p.1 p.2 a.1 a.2.1 a.2.2.1 a.2.2.2 w
end Go.Proofs.YteafglginnonnaaGreat
