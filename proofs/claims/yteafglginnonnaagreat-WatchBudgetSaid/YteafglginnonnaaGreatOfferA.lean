/- Several texts in one. -/
import Derived.Test.YteafglginnonnaaGreatMore
import Derived.Test.YteafglginnonnaaGreatSight
/- Reference bolideref04: the cells of a box. Conditions: a valid box, a right number. -/
set_option linter.unusedVariables false
set_option linter.unusedSimpArgs false
namespace Go.Proofs.YteafglginnonnaaGreat
open Go.RowKit Go.Shelf
structure CeS (w:World) (n:Nat) (v:Value) (l:List BoxD) (U:World):Prop where
 u:Up w U
 o:Own TBox 69 w.heap.size U v l
 n0:1≤l.length
 n1:l.length≤n
 ok:∀ b∈l,BOk b
theorem Own.form1 {α:Type} {T:Rw α} {e:TypeId} {base:Nat} {w:World} {v:Value} {l:List α} (h:Own T e base w v l) (h0:l≠[]):∃ g c,v=.slice (some ⟨g,0,none⟩) l.length c:=by
 rcases h.2 with ⟨_,h1⟩ | ⟨g,cap,cur,hv,_⟩
 · exact absurd (List.length_eq_zero_iff.1 h1) h0
 · exact ⟨g,cap,hv⟩
theorem Own.base {α:Type} {T:Rw α} {e:TypeId} {b b':Nat} {w:World} {v:Value} {l:List α} (h:Own T e b w v l) (hb:b'≤b):Own T e b' w v l:=by
 obtain ⟨h1,h2⟩:=h
 refine ⟨h1,?_⟩
 rcases h2 with h2 | ⟨g,cap,cur,hv,hg,h3⟩
 · exact .inl h2
 · exact .inr ⟨g,cap,cur,hv,Nat.le_trans hb hg,h3⟩
theorem Lst.nil0 {α:Type} (T:Rw α) (K:Nat→Prop) (w:World) (a:Option Addr) (c:Nat):Lst T K w (.slice a 0 c) []:=⟨a,c,rfl,by simp,fun h=>absurd rfl h⟩
theorem Lst.two {α:Type} {T:Rw α} {w:World} {B:Nat} {e:TypeId} {x y:α} (h:Box w B (T.f x++T.f y).toArray e):Lst T (fun _=>True) w (.slice (some ⟨B,0,none⟩) 2 2) [x,y]:=by
 refine ⟨some ⟨B,0,none⟩,2,rfl,by simp,fun _=>⟨B,0,rfl,trivial,h.lt,fun i z hz=>?_⟩⟩
 have hkp:=T.kp
 match i,hz with
 | 0,hz =>
  cases hz
  refine ⟨T.f x,rfl,T.fk x,fun j u hu=>?_⟩
  have hj:=(List.getElem?_eq_some_iff.1 hu).1
  have:=h.cell j (v:=u) (by rw [List.getElem?_toArray,List.getElem?_append_left hj];exact hu)
  simpa using this
 | 1,hz =>
  cases hz
  refine ⟨T.f y,rfl,T.fk y,fun j u hu=>?_⟩
  have:=h.cell (T.k+j) (v:=u) (by rw [List.getElem?_toArray,List.getElem?_append_right (by rw [T.fk];omega),T.fk,Nat.add_sub_cancel_left];exact hu)
  simpa using this
structure CfS (wr:World) (bx bt:Nat) (X Y:BoxD) (vo vr:Value) (l lr:List BoxD) (base:Nat) (U:World):Prop where
 u:Up wr U
 x:Box U bx (boxA X) 69
 y:Box U bt (boxA Y) 69
 o:Own TBox 69 base U vo l
 r:Own TBox 69 wr.heap.size U vr lr
theorem CfS.up {wr:World} {bx bt:Nat} {X Y:BoxD} {vo vr:Value} {l lr:List BoxD} {base:Nat} {U V:World} (h:CfS wr bx bt X Y vo vr l lr base U) (hu:Up U V):CfS wr bx bt X Y vo vr l lr base V:=⟨h.u.trans hu,h.x.up hu,h.y.up hu,h.o.up hu,h.r.up hu⟩
def lenV:Value→Nat
 | .slice _ n _=>n
 | _=>0
theorem CeS.next {w wr V W:World} {n k:Nat} {X Y:BoxD} {v:Value} {l lt lr:List BoxD} (hw:Up w wr) (hv:Up wr V) (hu:Up V W) (hk:k<l.length) (hn:l.length<n) (hok:∀ b∈l,BOk b) (hX:BOk X) (hY:BOk Y) (hlt:lt=l.take k) (hlr:lr=l.drop (k+1)) (ho:Own TBox 69 V.heap.size W v (lt++[X,Y]++lr)) :
 CeS w n v (lt++[X,Y]++lr) W∧lenV v=l.length+1:=by
 have hlen:(lt++[X,Y]++lr).length=l.length+1:=by
  rw [hlt,hlr]
  simp
  omega
 refine ⟨⟨(hw.trans hv).trans hu,ho.base (hw.trans hv).below.size,by omega,by omega,fun b hb=>?_⟩,?_⟩
 · rcases List.mem_append.1 hb with hb | hb
   · rcases List.mem_append.1 hb with hb | hb
     · rw [hlt] at hb;exact hok b (List.mem_of_mem_take hb)
     · simp at hb
       rcases hb with rfl | rfl
       · exact hX
       · exact hY
   · rw [hlr] at hb;exact hok b (List.mem_of_mem_drop hb)
 · obtain ⟨a,c,rfl⟩:=ho.form
   exact hlen
theorem CeS.up {w U V:World} {n:Nat} {v:Value} {l:List BoxD} (h:CeS w n v l U) (hu:Up U V):CeS w n v l V:=⟨h.u.trans hu,h.o.up hu,h.n0,h.n1,h.ok⟩
set_option maxRecDepth 100000 in
set_option maxHeartbeats 20000000 in
theorem qcells_any {b:BoxD} (hb:BOk b) {n:Nat} (hn0:1≤n) (hn1:n≤512) (w:World):Calls Tryz.prog 78 #[.agg (boxA b),.int .i64 n] w fun e W=>∃ (a:Option Addr) (m c:Nat) (l:List BoxD) (p:Ext),e=.returned (.tuple #[.slice a m c,.int .i64 0])∧Boxes (fun q=>w.heap.size≤q) W (.slice a m c) l∧(1≤l.length∧l.length≤n)∧(∀ x∈l,BOk x)∧W=ext w p:=by
 have HC:=hide (fun W=>qbox_any b W)
 rw [show boxE b=0 from (boxE_ok b).2 hb] at HC
 have HWI:=hide (fun (x:BoxD) (hx:BOk x) W=>qwidest_any hx.num W)
 have HSP:=hide (fun (x:BoxD) (hx:BOk x) W=>qsplit_any x hx.num W)
 have HOK:=hide hb
 have hd0:decide ((n:Int)<1)=false:=by simp;omega
 have hd1:decide ((512:Int)<n)=false:=by simp;omega
 have hd2:decide (n<1)=false:=by simp;omega
 have hd3:decide (512<n)=false:=by simp;omega
 clear hb
 obtain ⟨x0,x1,y0,y1,u0,u1,v0,v1⟩:=b
 unfold boxA at HC ⊢
 dsimp only at HC ⊢
 go_enter Tryz.func78,Tryz.ntmps78
 go_wp2_with fail
 go_at_call 122
 refine (HC.out _).mono ?_
 intro p1
 go_wp2_with fail
 obtain ⟨g0,hg0⟩:∃ g,g=w.heap.size+1+p1.os.size:=⟨_,rfl⟩
 rw [← hg0]
 refine forgetW (fun U=>CeS w n (.slice (some ⟨g0,0,none⟩) 1 1) [⟨x0,x1,y0,y1,u0,u1,v0,v1⟩] U) ⟨(by repeat (first|with_reducible (first|exact Up.refl _|apply Up.plus)|apply Up.ext|apply Up.alloc|apply Up.drew|refine Up.setCell ?_ (by simp;try omega) _)),Own.one (show Box _ g0 _ _ from by rw [hg0];exact Box.mk (by simp)) (by omega),by simp,by simp;omega,by simpa using HOK.out⟩ ?_
 clear hg0 HC HOK
 intro V0 h0
 have H0:=hide h0
 clear h0
 go_loopw [7] (fun s7 wr=>∃ l,Hid (CeS w n s7 l wr)) (fun s7 _=>n - lenV s7)
 case atStart=>exact ⟨_,H0⟩
 case round =>
  obtain ⟨l,HI⟩:=hrel
  clear H0
  obtain ⟨g,c,hv⟩:=HI.out.o.form1 (by intro e;have:=HI.out.n0;rw [e] at this;simp at this)
  subst hv
  have hl0:=HI.out.n0
  have hl1:=HI.out.n1
  by_cases hlt:l.length<n
  · have hlb:decide ((l.length:Int)<n)=true:=by simp;omega
    have hln:decide (l.length<n)=true:=by simp;omega
    go_wp2_with fail
    go_loopw [8,9,10] (fun s8 s9 s10 wr=>∃ (i k:Nat) (m:Int),i≤l.length∧k<l.length∧s10=.int .i64 i∧s8=.int .i64 k∧s9=.int .i64 m∧Hid (CeS w n (.slice (some ⟨g,0,none⟩) l.length c) l wr)) (fun _ _ s10 _=>l.length - (intOf s10).toNat)
    case atStart=>exact ⟨0,0,0,by omega,by omega,rfl,rfl,rfl,HI⟩
    case round =>
     obtain ⟨i,k,m,hi,hk,rfl,rfl,rfl,HJ⟩:=hrel
     clear HI
     by_cases hil:i<l.length
     · have hib:decide ((i:Int)<l.length)=true:=by simp;omega
       have hin:decide (i<l.length)=true:=by simp;omega
       obtain ⟨b',o',p,he,_,hbw,hp,c0,c1,c2,c3,c4,c5,c6,c7⟩:=(Boxes.at (boxes_of (HJ.out.o.lies (by omega)))).2.2 i hil
       cases he
       have hpk:=HJ.out.ok p (List.mem_of_getElem? hp)
       have HW:=hide (HWI.out p hpk)
       generalize widN p=W' at HW
       generalize widI p=I' at HW
       obtain ⟨px0,px1,py0,py1,pu0,pu1,pv0,pv1⟩:=p
       unfold boxA at HW
       dsimp only at HW c0 c1 c2 c3 c4 c5 c6 c7
       simp only [Nat.zero_add] at c0 c1 c2 c3 c4 c5 c6 c7
       clear hp hpk
       go_wp2_with fail
       go_at_call 123
       refine (HW.out _).mono ?_
       intro p2
       by_cases hm:m<W'
       · have hmb:decide (m<W')=true:=decide_eq_true hm
         go_wp2_with fail
         go_roundw
         case rel=>exact ⟨i+1,i,W',by omega,hil,by go_num,rfl,rfl,hide (HJ.out.up (by repeat (first|with_reducible (first|exact Up.refl _|apply Up.plus)|apply Up.ext|apply Up.alloc|apply Up.drew|refine Up.setCell ?_ (by simp;try omega) _)))⟩
         case measure=>simp [intOf];omega
       · have hmb:decide (m<W')=false:=decide_eq_false hm
         go_wp2_with fail
         go_roundw
         case rel=>exact ⟨i+1,k,m,by omega,hk,by go_num,rfl,rfl,hide (HJ.out.up (by repeat (first|with_reducible (first|exact Up.refl _|apply Up.plus)|apply Up.ext|apply Up.alloc|apply Up.drew|refine Up.setCell ?_ (by simp;try omega) _)))⟩
         case measure=>simp [intOf];omega
     · have hib:decide ((i:Int)<l.length)=false:=by simp;omega
       have hin:decide (i<l.length)=false:=by simp;omega
       have hkb:decide ((k:Int)<l.length)=true:=by simp;omega
       have hkn:decide (k<l.length)=true:=by simp;omega
       obtain ⟨b',o',p,he,_,hbw,hp,c0,c1,c2,c3,c4,c5,c6,c7⟩:=(Boxes.at (boxes_of (HJ.out.o.lies (by omega)))).2.2 k hk
       cases he
       have hpk:=HJ.out.ok p (List.mem_of_getElem? hp)
       have HS:=hide (HSP.out p hpk)
       have HSO:=hide (fun h=>(splitV_ok (b:=p) h).2)
       generalize splitV p=SV at HS HSO
       obtain ⟨⟨X,Y⟩,is⟩:=SV
       obtain ⟨px0,px1,py0,py1,pu0,pu1,pv0,pv1⟩:=p
       obtain ⟨X0,X1,X2,X3,X4,X5,X6,X7⟩:=X
       obtain ⟨Y0,Y1,Y2,Y3,Y4,Y5,Y6,Y7⟩:=Y
       unfold boxA at HS
       dsimp only at HS HSO c0 c1 c2 c3 c4 c5 c6 c7
       simp only [Nat.zero_add] at c0 c1 c2 c3 c4 c5 c6 c7
       clear hp hpk
       rcases is with _ | _
       · go_wp2_with fail
         go_at_call 124
         refine (HS.out _).mono ?_
         intro p2
         go_wp2_with fail
         refine forgetW (fun U=>CeS w n (.slice (some ⟨g,0,none⟩) l.length c) l U) (HJ.out.up (by repeat (first|with_reducible (first|exact Up.refl _|apply Up.plus)|apply Up.ext|apply Up.alloc|apply Up.drew|refine Up.setCell ?_ (by simp;try omega) _))) ?_
         intro U hU
         obtain ⟨pe,hpe⟩:=hU.u
         exact bodyPost_ret (v:=.tuple #[.slice (some ⟨g,0,none⟩) l.length c,.int .i64 0]) (by simp [results,Tryz.results78,go_sem]) rfl ⟨_,_,_,l,pe,rfl,boxes_of (hU.o.lies (by omega)),⟨hl0,hl1⟩,hU.ok,hpe⟩
       · have hXY:=HSO.out rfl
         have HXY:=hide hXY
         clear hXY HSO
         have hat1:k+1≤l.length:=hk
         have hat2:(k:Int)+1≤l.length:=by omega
         have hlc:l.length≤c:=by
          rcases HJ.out.o.cap with h | h
          · exact h
          · rw [h] at hk;simp at hk
         have hkc:k≤c:=by omega
         have hkl:k≤l.length:=by omega
         have hl5:l.length≤512:=by omega
         by_cases hck:c=k+1
         · subst hck
           go_wp2_with fail
           go_at_call 124
           refine (HS.out _).mono ?_
           intro p2
           go_wp2_with (at_builtin;with_reducible refine stopA rfl ?_)
           refine hide ?_
           obtain ⟨bx,hbx⟩:∃ b,b=wr.heap.size+p2.os.size:=⟨_,rfl⟩
           rw [← hbx]
           obtain ⟨bt,hbt⟩:∃ b,b=bx+1:=⟨_,rfl⟩
           rw [← hbt]
           obtain ⟨lr,hlr⟩:∃ lr,lr=l.drop (k+1):=⟨_,rfl⟩
           refine wpList_copy elem_box rfl (.tmp 64) (.tmp 68) rfl (w0:=wr) (by repeat (first|with_reducible (first|exact Up.refl _|apply Up.plus)|apply Up.ext|apply Up.alloc|apply Up.drew|refine Up.setCell ?_ (by simp;try omega) _)) rfl (show Box _ (bt+1) #[] 69 from by rw [hbt,hbx];exact Box.mk (by simp)) (by omega) rfl (l:=lr) (K:=fun _=>True) (by rw [hlr,show l.drop (k+1)=[] from List.drop_eq_nil_of_le (by omega)];exact Lst.nil0 _ (fun _=>True) _ _ _) (by rw [hlr];simp;omega) (by decide) ?_
           intro gR cR W1 hu1 hR hk1
           have H1:=hide (show CfS wr bx bt ⟨X0,X1,X2,X3,X4,X5,X6,X7⟩ ⟨Y0,Y1,Y2,Y3,Y4,Y5,Y6,Y7⟩ (.slice (some ⟨g,0,none⟩) l.length (k+1)) (.slice (some ⟨gR,0,none⟩) lr.length cR) l lr w.heap.size W1 from ⟨hu1,hk1 _ _ _ (by omega) (by rw [hbx];exact (by repeat (first|exact Box.mk rfl|(refine Box.mk ?_;simp;done)|apply Box.ext|apply Box.drew|apply Box.alloc|apply Box.two1|refine Box.other ?_ (by omega) _ _))),hk1 _ _ _ (by omega) (by rw [hbt,hbx];exact Box.alloc (Box.mk (by simp)) _),HJ.out.o.up hu1,hR⟩)
           have HLR:=hide hlr
           have HUJ:=hide HJ.out.u
           have HOKL:=hide HJ.out.ok
           have lbx:bx<W1.heap.size:=H1.out.x.lt
           have lbt:bt<W1.heap.size:=H1.out.y.lt
           clear hu1 hR hk1 HJ HS c0 c1 c2 c3 c4 c5 c6 c7 hbx hbt hlr
           go_wp2_with fail
           have hS0:=hide (show Box W1.drew bx #[.int .i64 (X0),.int .i64 (X1),.int .i64 (X2),.int .i64 (X3),.int .i64 (X4),.int .i64 (X5),.int .i64 (X6),.int .i64 (X7)] 69∧Box W1.drew bt #[.int .i64 (Y0),.int .i64 (Y1),.int .i64 (Y2),.int .i64 (Y3),.int .i64 (Y4),.int .i64 (Y5),.int .i64 (Y6),.int .i64 (Y7)] 69 from ⟨H1.out.x.drew,H1.out.y.drew⟩)
           refine wp_region_L (fun W'=>Box W' bx #[.int .i64 (X0),.int .i64 (X1),.int .i64 (X2),.int .i64 (X3),.int .i64 (X4),.int .i64 (X5),.int .i64 (X6),.int .i64 (X7)] 69∧Box W' bt #[.int .i64 (Y0),.int .i64 (Y1),.int .i64 (Y2),.int .i64 (Y3),.int .i64 (Y4),.int .i64 (Y5),.int .i64 (Y6),.int .i64 (Y7)] 69) 11 (by kernel_rfl) ?_
           refine anyL_take 1 (v:=(.slice (some ⟨g,0,none⟩) l.length (k+1))) rfl (by kernel_rfl) (fun _ _ _ h=>h) (.inl ⟨rfl,fun W' hW'=>by simp [go_sem]⟩) hS0.out ?_
           simp only [Act.put,List.setIfInBounds_toArray,List.set_cons_zero,List.set_cons_succ]
           refine anyL_take 2 (v:=(.int .i64 k)) rfl (by kernel_rfl) (fun _ _ _ h=>h) (.inl ⟨rfl,fun W' hW'=>by simp [go_sem]⟩) hS0.out ?_
           simp only [Act.put,List.setIfInBounds_toArray,List.set_cons_zero,List.set_cons_succ]
           refine anyL_take 3 (v:=(.slice (some ⟨g,0,none⟩) k (k+1))) rfl (by kernel_rfl) (fun _ _ _ h=>h) (.inl ⟨rfl,fun W' hW'=>by simp [go_sem,hkc,hkl] <;> (intro h;omega)⟩) hS0.out ?_
           simp only [Act.put,List.setIfInBounds_toArray,List.set_cons_zero,List.set_cons_succ]
           refine anyL_take 5 (v:=(.agg #[.int .i64 (X0),.int .i64 (X1),.int .i64 (X2),.int .i64 (X3),.int .i64 (X4),.int .i64 (X5),.int .i64 (X6),.int .i64 (X7)])) rfl (by kernel_rfl) (fun _ _ _ h=>h) (.inl ⟨rfl,fun W' hW'=>by have e0:=Box.cell hW'.1 0 rfl;have e1:=Box.cell hW'.1 1 rfl;have e2:=Box.cell hW'.1 2 rfl;have e3:=Box.cell hW'.1 3 rfl;have e4:=Box.cell hW'.1 4 rfl;have e5:=Box.cell hW'.1 5 rfl;have e6:=Box.cell hW'.1 6 rfl;have e7:=Box.cell hW'.1 7 rfl;simp [go_sem,e0,e1,e2,e3,e4,e5,e6,e7]⟩) hS0.out ?_
           simp only [Act.put,List.setIfInBounds_toArray,List.set_cons_zero,List.set_cons_succ]
           refine anyL_take 6 (v:=(.agg #[.int .i64 (Y0),.int .i64 (Y1),.int .i64 (Y2),.int .i64 (Y3),.int .i64 (Y4),.int .i64 (Y5),.int .i64 (Y6),.int .i64 (Y7)])) rfl (by kernel_rfl) (fun _ _ _ h=>h) (.inl ⟨rfl,fun W' hW'=>by have e0:=Box.cell hW'.2 0 rfl;have e1:=Box.cell hW'.2 1 rfl;have e2:=Box.cell hW'.2 2 rfl;have e3:=Box.cell hW'.2 3 rfl;have e4:=Box.cell hW'.2 4 rfl;have e5:=Box.cell hW'.2 5 rfl;have e6:=Box.cell hW'.2 6 rfl;have e7:=Box.cell hW'.2 7 rfl;simp [go_sem,e0,e1,e2,e3,e4,e5,e6,e7]⟩) hS0.out ?_
           simp only [Act.put,List.setIfInBounds_toArray,List.set_cons_zero,List.set_cons_succ]
           refine anyL_take 9 (v:=(.slice (some ⟨gR,0,none⟩) lr.length cR)) rfl (by kernel_rfl) (fun _ _ _ h=>h) (.inl ⟨rfl,fun W' hW'=>by simp [go_sem]⟩) hS0.out ?_
           simp only [Act.put,List.setIfInBounds_toArray,List.set_cons_zero,List.set_cons_succ]
           obtain ⟨lt,hlt'⟩:∃ lt,lt=l.take k:=⟨_,rfl⟩
           have HL5:=hide (show lt.length≤512 by rw [hlt'];simp;omega)
           have HLT:=hide hlt'
           clear hlt'
           refine forgetW (fun U=>CfS wr bx bt ⟨X0,X1,X2,X3,X4,X5,X6,X7⟩ ⟨Y0,Y1,Y2,Y3,Y4,Y5,Y6,Y7⟩ (.slice (some ⟨g,0,none⟩) l.length (k+1)) (.slice (some ⟨gR,0,none⟩) lr.length cR) l lr w.heap.size U) (H1.out.up (Up.refl _).drew) ?_
           clear hS0 H1 lbx lbt
           intro V hV
           have HV:=hide hV
           clear hV
           have HR5:=hide (show lr.length≤512 by rw [HLR.out];simp;omega)
           refine anyL_two (i:=0) (j:=7) (by kernel_rfl) rfl rfl (fun K HK=>?_) (fun K HK=>?_)
           · skip
             go_wp2_with fail
             refine HK.out _ _ (fun _=>⟨by (repeat (first|with_reducible apply Box.alloc|with_reducible apply Box.ext));exact HV.out.x,by (repeat (first|with_reducible apply Box.alloc|with_reducible apply Box.ext));exact HV.out.y⟩) ?_
             clear HK
             refine anyL_two (i:=4) (j:=7) (by kernel_rfl) rfl rfl (fun K HK=>?_) (fun K HK=>?_)
             · skip
               refine wpList_copy elem_box rfl (.tmp 70) (.tmp 73) rfl (w0:=V) (by repeat (first|with_reducible (first|exact Up.refl _|apply Up.plus)|apply Up.ext|apply Up.alloc|apply Up.drew|refine Up.setCell ?_ (by simp;try omega) _)) rfl (show Box _ (V.heap.size) #[] 69 from Box.mk (by simp)) (by omega) rfl (l:=lt) (K:=fun _=>True) (by rw [HLT.out];exact ((((HV.out.o.lies (by omega)).mono (K':=fun _=>True) fun _ _ _=>trivial).take (by omega) _).up (by repeat (first|with_reducible (first|exact Up.refl _|apply Up.plus)|apply Up.ext|apply Up.alloc|apply Up.drew|refine Up.setCell ?_ (by simp;try omega) _)))) (Nat.le_trans HL5.out (by decide)) (by decide) ?_
               intro g4 c4 W4 hu4 ho4 hk4
               have H4:=hide (And.intro (HV.out.up hu4) (And.intro hu4 (And.intro ho4 trivial)))
               clear hu4 ho4 hk4
               go_wp2_with fail
               refine HK.out _ _ (fun _=>⟨by (repeat (first|with_reducible apply Box.alloc|with_reducible apply Box.ext));exact H4.out.1.x,by (repeat (first|with_reducible apply Box.alloc|with_reducible apply Box.ext));exact H4.out.1.y⟩) ?_
               clear HK
               refine anyL_one (i:=7) (by kernel_rfl) rfl (fun K HK=>?_)
               go_wp2_with fail
               refine HK.out _ _ (fun _=>⟨by (repeat (first|with_reducible apply Box.alloc|with_reducible apply Box.ext));exact H4.out.1.x,by (repeat (first|with_reducible apply Box.alloc|with_reducible apply Box.ext));exact H4.out.1.y⟩) ?_
               clear HK
               refine anyL_one (i:=8) (by kernel_rfl) rfl (fun K HK=>?_)
               refine wpList_more elem_box rfl (.tmp 74) (.tmp 77) rfl (w0:=V) (H4.out.2.1.trans (by repeat (first|with_reducible (first|exact Up.refl _|apply Up.plus)|apply Up.ext|apply Up.alloc|apply Up.drew|refine Up.setCell ?_ (by simp;try omega) _))) (Nat.le_refl _) (Nat.le_trans H4.out.2.1.below.size (by simp)) rfl (H4.out.2.2.1.up (by repeat (first|with_reducible (first|exact Up.refl _|apply Up.plus)|apply Up.ext|apply Up.alloc|apply Up.drew|refine Up.setCell ?_ (by simp;try omega) _))) rfl (Lst.two (T:=TBox) (x:=⟨X0,X1,X2,X3,X4,X5,X6,X7⟩) (y:=⟨Y0,Y1,Y2,Y3,Y4,Y5,Y6,Y7⟩) (show Box _ W4.heap.size #[.int .i64 X0,.int .i64 X1,.int .i64 X2,.int .i64 X3,.int .i64 X4,.int .i64 X5,.int .i64 X6,.int .i64 X7,.int .i64 Y0,.int .i64 Y1,.int .i64 Y2,.int .i64 Y3,.int .i64 Y4,.int .i64 Y5,.int .i64 Y6,.int .i64 Y7] 69 from Box.mk (by simp))) (by have:=HL5.out;simp;omega) (by decide) ?_
               intro v8 W8 hu8 ho8 _
               have H8:=hide (And.intro (HV.out.up hu8) (And.intro hu8 ho8))
               clear hu8 ho8 H4
               go_wp2_with fail
               refine HK.out _ _ (fun _=>⟨H8.out.1.x,H8.out.1.y⟩) ?_
               clear HK
               refine anyL_one (i:=10) (by kernel_rfl) rfl (fun K HK=>?_)
               refine wpList_more elem_box rfl (.tmp 78) (.tmp 79) rfl (w0:=V) H8.out.2.1 (Nat.le_refl _) H8.out.2.1.below.size rfl H8.out.2.2 rfl (H8.out.1.r.lies (Nat.le_trans HR5.out (by decide))) (by have:=HL5.out;have:=HR5.out;simp;omega) (by decide) ?_
               intro v10 W10 hu10 ho10 _
               have HN:=hide (CeS.next (k:=k) HUJ.out HV.out.u hu10 hk hlt HOKL.out HXY.out.1 HXY.out.2 HLT.out HLR.out ho10)
               have H10:=hide (HV.out.up hu10)
               clear hu10 ho10 H8
               go_wp2_with fail
               refine HK.out _ _ (fun _=>⟨H10.out.x,H10.out.y⟩) ?_
               clear HK
               refine anyL_one (i:=11) (by kernel_rfl) rfl (fun K HK=>?_)
               go_wp2_with fail
               refine HK.out _ _ (fun h=>(h rfl).elim) ?_
               clear HK
               refine anyL_done (by kernel_rfl) ?_
               go_wp2_with fail
               go_roundw
               case rel=>exact ⟨_,hide HN.out.1⟩
               case measure =>
                show n - lenV v10<n - l.length
                rw [show lenV v10=l.length+1 from HN.out.2]
                omega
             · skip
               go_wp2_with fail
               refine HK.out _ _ (fun _=>⟨by (repeat (first|with_reducible apply Box.alloc|with_reducible apply Box.ext));exact HV.out.x,by (repeat (first|with_reducible apply Box.alloc|with_reducible apply Box.ext));exact HV.out.y⟩) ?_
               clear HK
               refine anyL_one (i:=4) (by kernel_rfl) rfl (fun K HK=>?_)
               refine wpList_copy elem_box rfl (.tmp 70) (.tmp 73) rfl (w0:=V) (by repeat (first|with_reducible (first|exact Up.refl _|apply Up.plus)|apply Up.ext|apply Up.alloc|apply Up.drew|refine Up.setCell ?_ (by simp;try omega) _)) rfl (show Box _ (V.heap.size) #[] 69 from Box.alloc (Box.mk (by simp)) _) (by omega) rfl (l:=lt) (K:=fun _=>True) (by rw [HLT.out];exact ((((HV.out.o.lies (by omega)).mono (K':=fun _=>True) fun _ _ _=>trivial).take (by omega) _).up (by repeat (first|with_reducible (first|exact Up.refl _|apply Up.plus)|apply Up.ext|apply Up.alloc|apply Up.drew|refine Up.setCell ?_ (by simp;try omega) _)))) (Nat.le_trans HL5.out (by decide)) (by decide) ?_
               intro g4 c4 W4 hu4 ho4 hk4
               have H4:=hide (And.intro (HV.out.up hu4) (And.intro hu4 (And.intro ho4 (show Box W4 (V.heap.size+1) #[.int .i64 X0,.int .i64 X1,.int .i64 X2,.int .i64 X3,.int .i64 X4,.int .i64 X5,.int .i64 X6,.int .i64 X7,.int .i64 Y0,.int .i64 Y1,.int .i64 Y2,.int .i64 Y3,.int .i64 Y4,.int .i64 Y5,.int .i64 Y6,.int .i64 Y7] 69 from hk4 _ _ _ (by omega) (Box.mk (by simp))))))
               clear hu4 ho4 hk4
               go_wp2_with fail
               refine HK.out _ _ (fun _=>⟨by (repeat (first|with_reducible apply Box.alloc|with_reducible apply Box.ext));exact H4.out.1.x,by (repeat (first|with_reducible apply Box.alloc|with_reducible apply Box.ext));exact H4.out.1.y⟩) ?_
               clear HK
               refine anyL_one (i:=8) (by kernel_rfl) rfl (fun K HK=>?_)
               refine wpList_more elem_box rfl (.tmp 74) (.tmp 77) rfl (w0:=V) (H4.out.2.1.trans (by repeat (first|with_reducible (first|exact Up.refl _|apply Up.plus)|apply Up.ext|apply Up.alloc|apply Up.drew|refine Up.setCell ?_ (by simp;try omega) _))) (Nat.le_refl _) (Nat.le_trans H4.out.2.1.below.size (by simp)) rfl (H4.out.2.2.1.up (by repeat (first|with_reducible (first|exact Up.refl _|apply Up.plus)|apply Up.ext|apply Up.alloc|apply Up.drew|refine Up.setCell ?_ (by simp;try omega) _))) rfl (Lst.two (T:=TBox) (x:=⟨X0,X1,X2,X3,X4,X5,X6,X7⟩) (y:=⟨Y0,Y1,Y2,Y3,Y4,Y5,Y6,Y7⟩) H4.out.2.2.2) (by have:=HL5.out;simp;omega) (by decide) ?_
               intro v8 W8 hu8 ho8 _
               have H8:=hide (And.intro (HV.out.up hu8) (And.intro hu8 ho8))
               clear hu8 ho8 H4
               go_wp2_with fail
               refine HK.out _ _ (fun _=>⟨H8.out.1.x,H8.out.1.y⟩) ?_
               clear HK
               refine anyL_one (i:=10) (by kernel_rfl) rfl (fun K HK=>?_)
               refine wpList_more elem_box rfl (.tmp 78) (.tmp 79) rfl (w0:=V) H8.out.2.1 (Nat.le_refl _) H8.out.2.1.below.size rfl H8.out.2.2 rfl (H8.out.1.r.lies (Nat.le_trans HR5.out (by decide))) (by have:=HL5.out;have:=HR5.out;simp;omega) (by decide) ?_
               intro v10 W10 hu10 ho10 _
               have HN:=hide (CeS.next (k:=k) HUJ.out HV.out.u hu10 hk hlt HOKL.out HXY.out.1 HXY.out.2 HLT.out HLR.out ho10)
               have H10:=hide (HV.out.up hu10)
               clear hu10 ho10 H8
               go_wp2_with fail
               refine HK.out _ _ (fun _=>⟨H10.out.x,H10.out.y⟩) ?_
               clear HK
               refine anyL_one (i:=11) (by kernel_rfl) rfl (fun K HK=>?_)
               go_wp2_with fail
               refine HK.out _ _ (fun h=>(h rfl).elim) ?_
               clear HK
               refine anyL_done (by kernel_rfl) ?_
               go_wp2_with fail
               go_roundw
               case rel=>exact ⟨_,hide HN.out.1⟩
               case measure =>
                show n - lenV v10<n - l.length
                rw [show lenV v10=l.length+1 from HN.out.2]
                omega
           · skip
             go_wp2_with fail
             refine HK.out _ _ (fun _=>⟨by (repeat (first|with_reducible apply Box.alloc|with_reducible apply Box.ext));exact HV.out.x,by (repeat (first|with_reducible apply Box.alloc|with_reducible apply Box.ext));exact HV.out.y⟩) ?_
             clear HK
             refine anyL_one (i:=0) (by kernel_rfl) rfl (fun K HK=>?_)
             go_wp2_with fail
             refine HK.out _ _ (fun _=>⟨by (repeat (first|with_reducible apply Box.alloc|with_reducible apply Box.ext));exact HV.out.x,by (repeat (first|with_reducible apply Box.alloc|with_reducible apply Box.ext));exact HV.out.y⟩) ?_
             clear HK
             refine anyL_one (i:=4) (by kernel_rfl) rfl (fun K HK=>?_)
             refine wpList_copy elem_box rfl (.tmp 70) (.tmp 73) rfl (w0:=V) (by repeat (first|with_reducible (first|exact Up.refl _|apply Up.plus)|apply Up.ext|apply Up.alloc|apply Up.drew|refine Up.setCell ?_ (by simp;try omega) _)) rfl (show Box _ (V.heap.size+1) #[] 69 from Box.mk (by simp)) (by omega) rfl (l:=lt) (K:=fun _=>True) (by rw [HLT.out];exact ((((HV.out.o.lies (by omega)).mono (K':=fun _=>True) fun _ _ _=>trivial).take (by omega) _).up (by repeat (first|with_reducible (first|exact Up.refl _|apply Up.plus)|apply Up.ext|apply Up.alloc|apply Up.drew|refine Up.setCell ?_ (by simp;try omega) _)))) (Nat.le_trans HL5.out (by decide)) (by decide) ?_
             intro g4 c4 W4 hu4 ho4 hk4
             have H4:=hide (And.intro (HV.out.up hu4) (And.intro hu4 (And.intro ho4 (show Box W4 (V.heap.size) #[.int .i64 X0,.int .i64 X1,.int .i64 X2,.int .i64 X3,.int .i64 X4,.int .i64 X5,.int .i64 X6,.int .i64 X7,.int .i64 Y0,.int .i64 Y1,.int .i64 Y2,.int .i64 Y3,.int .i64 Y4,.int .i64 Y5,.int .i64 Y6,.int .i64 Y7] 69 from hk4 _ _ _ (by omega) (Box.alloc (Box.mk (by simp)) _)))))
             clear hu4 ho4 hk4
             go_wp2_with fail
             refine HK.out _ _ (fun _=>⟨by (repeat (first|with_reducible apply Box.alloc|with_reducible apply Box.ext));exact H4.out.1.x,by (repeat (first|with_reducible apply Box.alloc|with_reducible apply Box.ext));exact H4.out.1.y⟩) ?_
             clear HK
             refine anyL_one (i:=8) (by kernel_rfl) rfl (fun K HK=>?_)
             refine wpList_more elem_box rfl (.tmp 74) (.tmp 77) rfl (w0:=V) (H4.out.2.1.trans (by repeat (first|with_reducible (first|exact Up.refl _|apply Up.plus)|apply Up.ext|apply Up.alloc|apply Up.drew|refine Up.setCell ?_ (by simp;try omega) _))) (Nat.le_refl _) (Nat.le_trans H4.out.2.1.below.size (by simp)) rfl (H4.out.2.2.1.up (by repeat (first|with_reducible (first|exact Up.refl _|apply Up.plus)|apply Up.ext|apply Up.alloc|apply Up.drew|refine Up.setCell ?_ (by simp;try omega) _))) rfl (Lst.two (T:=TBox) (x:=⟨X0,X1,X2,X3,X4,X5,X6,X7⟩) (y:=⟨Y0,Y1,Y2,Y3,Y4,Y5,Y6,Y7⟩) H4.out.2.2.2) (by have:=HL5.out;simp;omega) (by decide) ?_
             intro v8 W8 hu8 ho8 _
             have H8:=hide (And.intro (HV.out.up hu8) (And.intro hu8 ho8))
             clear hu8 ho8 H4
             go_wp2_with fail
             refine HK.out _ _ (fun _=>⟨H8.out.1.x,H8.out.1.y⟩) ?_
             clear HK
             refine anyL_one (i:=10) (by kernel_rfl) rfl (fun K HK=>?_)
             refine wpList_more elem_box rfl (.tmp 78) (.tmp 79) rfl (w0:=V) H8.out.2.1 (Nat.le_refl _) H8.out.2.1.below.size rfl H8.out.2.2 rfl (H8.out.1.r.lies (Nat.le_trans HR5.out (by decide))) (by have:=HL5.out;have:=HR5.out;simp;omega) (by decide) ?_
             intro v10 W10 hu10 ho10 _
             have HN:=hide (CeS.next (k:=k) HUJ.out HV.out.u hu10 hk hlt HOKL.out HXY.out.1 HXY.out.2 HLT.out HLR.out ho10)
             have H10:=hide (HV.out.up hu10)
             clear hu10 ho10 H8
             go_wp2_with fail
             refine HK.out _ _ (fun _=>⟨H10.out.x,H10.out.y⟩) ?_
             clear HK
             refine anyL_one (i:=11) (by kernel_rfl) rfl (fun K HK=>?_)
             go_wp2_with fail
             refine HK.out _ _ (fun h=>(h rfl).elim) ?_
             clear HK
             refine anyL_done (by kernel_rfl) ?_
             go_wp2_with fail
             go_roundw
             case rel=>exact ⟨_,hide HN.out.1⟩
             case measure =>
              show n - lenV v10<n - l.length
              rw [show lenV v10=l.length+1 from HN.out.2]
              omega
         · go_wp2_with fail
           go_at_call 124
           refine (HS.out _).mono ?_
           intro p2
           go_wp2_with (at_builtin;with_reducible refine stopA rfl ?_)
           refine hide ?_
           obtain ⟨bx,hbx⟩:∃ b,b=wr.heap.size+p2.os.size:=⟨_,rfl⟩
           rw [← hbx]
           obtain ⟨bt,hbt⟩:∃ b,b=bx+1:=⟨_,rfl⟩
           rw [← hbt]
           obtain ⟨lr,hlr⟩:∃ lr,lr=l.drop (k+1):=⟨_,rfl⟩
           refine wpList_copy elem_box rfl (.tmp 64) (.tmp 68) rfl (w0:=wr) (by repeat (first|with_reducible (first|exact Up.refl _|apply Up.plus)|apply Up.ext|apply Up.alloc|apply Up.drew|refine Up.setCell ?_ (by simp;try omega) _)) rfl (show Box _ (bt+1) #[] 69 from by rw [hbt,hbx];exact Box.mk (by simp)) (by omega) rfl (l:=lr) (K:=fun _=>True) (by have h9:=((HJ.out.o.lies (by omega)).mono (K':=fun _=>True) fun _ _ _=>trivial).drop (k+1) (c - (k+1));simp only [Nat.zero_add] at h9;rw [hlr];exact h9.up (by repeat (first|with_reducible (first|exact Up.refl _|apply Up.plus)|apply Up.ext|apply Up.alloc|apply Up.drew|refine Up.setCell ?_ (by simp;try omega) _))) (by rw [hlr];simp;omega) (by decide) ?_
           intro gR cR W1 hu1 hR hk1
           have H1:=hide (show CfS wr bx bt ⟨X0,X1,X2,X3,X4,X5,X6,X7⟩ ⟨Y0,Y1,Y2,Y3,Y4,Y5,Y6,Y7⟩ (.slice (some ⟨g,0,none⟩) l.length c) (.slice (some ⟨gR,0,none⟩) lr.length cR) l lr w.heap.size W1 from ⟨hu1,hk1 _ _ _ (by omega) (by rw [hbx];exact (by repeat (first|exact Box.mk rfl|(refine Box.mk ?_;simp;done)|apply Box.ext|apply Box.drew|apply Box.alloc|apply Box.two1|refine Box.other ?_ (by omega) _ _))),hk1 _ _ _ (by omega) (by rw [hbt,hbx];exact Box.alloc (Box.mk (by simp)) _),HJ.out.o.up hu1,hR⟩)
           have HLR:=hide hlr
           have HUJ:=hide HJ.out.u
           have HOKL:=hide HJ.out.ok
           have lbx:bx<W1.heap.size:=H1.out.x.lt
           have lbt:bt<W1.heap.size:=H1.out.y.lt
           clear hu1 hR hk1 HJ HS c0 c1 c2 c3 c4 c5 c6 c7 hbx hbt hlr
           go_wp2_with fail
           have hS0:=hide (show Box W1.drew bx #[.int .i64 (X0),.int .i64 (X1),.int .i64 (X2),.int .i64 (X3),.int .i64 (X4),.int .i64 (X5),.int .i64 (X6),.int .i64 (X7)] 69∧Box W1.drew bt #[.int .i64 (Y0),.int .i64 (Y1),.int .i64 (Y2),.int .i64 (Y3),.int .i64 (Y4),.int .i64 (Y5),.int .i64 (Y6),.int .i64 (Y7)] 69 from ⟨H1.out.x.drew,H1.out.y.drew⟩)
           refine wp_region_L (fun W'=>Box W' bx #[.int .i64 (X0),.int .i64 (X1),.int .i64 (X2),.int .i64 (X3),.int .i64 (X4),.int .i64 (X5),.int .i64 (X6),.int .i64 (X7)] 69∧Box W' bt #[.int .i64 (Y0),.int .i64 (Y1),.int .i64 (Y2),.int .i64 (Y3),.int .i64 (Y4),.int .i64 (Y5),.int .i64 (Y6),.int .i64 (Y7)] 69) 11 (by kernel_rfl) ?_
           refine anyL_take 1 (v:=(.slice (some ⟨g,0,none⟩) l.length c)) rfl (by kernel_rfl) (fun _ _ _ h=>h) (.inl ⟨rfl,fun W' hW'=>by simp [go_sem]⟩) hS0.out ?_
           simp only [Act.put,List.setIfInBounds_toArray,List.set_cons_zero,List.set_cons_succ]
           refine anyL_take 2 (v:=(.int .i64 k)) rfl (by kernel_rfl) (fun _ _ _ h=>h) (.inl ⟨rfl,fun W' hW'=>by simp [go_sem]⟩) hS0.out ?_
           simp only [Act.put,List.setIfInBounds_toArray,List.set_cons_zero,List.set_cons_succ]
           refine anyL_take 3 (v:=(.slice (some ⟨g,0,none⟩) k c)) rfl (by kernel_rfl) (fun _ _ _ h=>h) (.inl ⟨rfl,fun W' hW'=>by simp [go_sem,hkc,hkl] <;> (intro h;omega)⟩) hS0.out ?_
           simp only [Act.put,List.setIfInBounds_toArray,List.set_cons_zero,List.set_cons_succ]
           refine anyL_take 5 (v:=(.agg #[.int .i64 (X0),.int .i64 (X1),.int .i64 (X2),.int .i64 (X3),.int .i64 (X4),.int .i64 (X5),.int .i64 (X6),.int .i64 (X7)])) rfl (by kernel_rfl) (fun _ _ _ h=>h) (.inl ⟨rfl,fun W' hW'=>by have e0:=Box.cell hW'.1 0 rfl;have e1:=Box.cell hW'.1 1 rfl;have e2:=Box.cell hW'.1 2 rfl;have e3:=Box.cell hW'.1 3 rfl;have e4:=Box.cell hW'.1 4 rfl;have e5:=Box.cell hW'.1 5 rfl;have e6:=Box.cell hW'.1 6 rfl;have e7:=Box.cell hW'.1 7 rfl;simp [go_sem,e0,e1,e2,e3,e4,e5,e6,e7]⟩) hS0.out ?_
           simp only [Act.put,List.setIfInBounds_toArray,List.set_cons_zero,List.set_cons_succ]
           refine anyL_take 6 (v:=(.agg #[.int .i64 (Y0),.int .i64 (Y1),.int .i64 (Y2),.int .i64 (Y3),.int .i64 (Y4),.int .i64 (Y5),.int .i64 (Y6),.int .i64 (Y7)])) rfl (by kernel_rfl) (fun _ _ _ h=>h) (.inl ⟨rfl,fun W' hW'=>by have e0:=Box.cell hW'.2 0 rfl;have e1:=Box.cell hW'.2 1 rfl;have e2:=Box.cell hW'.2 2 rfl;have e3:=Box.cell hW'.2 3 rfl;have e4:=Box.cell hW'.2 4 rfl;have e5:=Box.cell hW'.2 5 rfl;have e6:=Box.cell hW'.2 6 rfl;have e7:=Box.cell hW'.2 7 rfl;simp [go_sem,e0,e1,e2,e3,e4,e5,e6,e7]⟩) hS0.out ?_
           simp only [Act.put,List.setIfInBounds_toArray,List.set_cons_zero,List.set_cons_succ]
           refine anyL_take 9 (v:=(.slice (some ⟨gR,0,none⟩) lr.length cR)) rfl (by kernel_rfl) (fun _ _ _ h=>h) (.inl ⟨rfl,fun W' hW'=>by simp [go_sem]⟩) hS0.out ?_
           simp only [Act.put,List.setIfInBounds_toArray,List.set_cons_zero,List.set_cons_succ]
           obtain ⟨lt,hlt'⟩:∃ lt,lt=l.take k:=⟨_,rfl⟩
           have HL5:=hide (show lt.length≤512 by rw [hlt'];simp;omega)
           have HLT:=hide hlt'
           clear hlt'
           refine forgetW (fun U=>CfS wr bx bt ⟨X0,X1,X2,X3,X4,X5,X6,X7⟩ ⟨Y0,Y1,Y2,Y3,Y4,Y5,Y6,Y7⟩ (.slice (some ⟨g,0,none⟩) l.length c) (.slice (some ⟨gR,0,none⟩) lr.length cR) l lr w.heap.size U) (H1.out.up (Up.refl _).drew) ?_
           clear hS0 H1 lbx lbt
           intro V hV
           have HV:=hide hV
           clear hV
           have HR5:=hide (show lr.length≤512 by rw [HLR.out];simp;omega)
           refine anyL_two (i:=0) (j:=7) (by kernel_rfl) rfl rfl (fun K HK=>?_) (fun K HK=>?_)
           · skip
             go_wp2_with fail
             refine HK.out _ _ (fun _=>⟨by (repeat (first|with_reducible apply Box.alloc|with_reducible apply Box.ext));exact HV.out.x,by (repeat (first|with_reducible apply Box.alloc|with_reducible apply Box.ext));exact HV.out.y⟩) ?_
             clear HK
             refine anyL_two (i:=4) (j:=7) (by kernel_rfl) rfl rfl (fun K HK=>?_) (fun K HK=>?_)
             · skip
               refine wpList_copy elem_box rfl (.tmp 70) (.tmp 73) rfl (w0:=V) (by repeat (first|with_reducible (first|exact Up.refl _|apply Up.plus)|apply Up.ext|apply Up.alloc|apply Up.drew|refine Up.setCell ?_ (by simp;try omega) _)) rfl (show Box _ (V.heap.size) #[] 69 from Box.mk (by simp)) (by omega) rfl (l:=lt) (K:=fun _=>True) (by rw [HLT.out];exact ((((HV.out.o.lies (by omega)).mono (K':=fun _=>True) fun _ _ _=>trivial).take (by omega) _).up (by repeat (first|with_reducible (first|exact Up.refl _|apply Up.plus)|apply Up.ext|apply Up.alloc|apply Up.drew|refine Up.setCell ?_ (by simp;try omega) _)))) (Nat.le_trans HL5.out (by decide)) (by decide) ?_
               intro g4 c4 W4 hu4 ho4 hk4
               have H4:=hide (And.intro (HV.out.up hu4) (And.intro hu4 (And.intro ho4 trivial)))
               clear hu4 ho4 hk4
               go_wp2_with fail
               refine HK.out _ _ (fun _=>⟨by (repeat (first|with_reducible apply Box.alloc|with_reducible apply Box.ext));exact H4.out.1.x,by (repeat (first|with_reducible apply Box.alloc|with_reducible apply Box.ext));exact H4.out.1.y⟩) ?_
               clear HK
               refine anyL_one (i:=7) (by kernel_rfl) rfl (fun K HK=>?_)
               go_wp2_with fail
               refine HK.out _ _ (fun _=>⟨by (repeat (first|with_reducible apply Box.alloc|with_reducible apply Box.ext));exact H4.out.1.x,by (repeat (first|with_reducible apply Box.alloc|with_reducible apply Box.ext));exact H4.out.1.y⟩) ?_
               clear HK
               refine anyL_one (i:=8) (by kernel_rfl) rfl (fun K HK=>?_)
               refine wpList_more elem_box rfl (.tmp 74) (.tmp 77) rfl (w0:=V) (H4.out.2.1.trans (by repeat (first|with_reducible (first|exact Up.refl _|apply Up.plus)|apply Up.ext|apply Up.alloc|apply Up.drew|refine Up.setCell ?_ (by simp;try omega) _))) (Nat.le_refl _) (Nat.le_trans H4.out.2.1.below.size (by simp)) rfl (H4.out.2.2.1.up (by repeat (first|with_reducible (first|exact Up.refl _|apply Up.plus)|apply Up.ext|apply Up.alloc|apply Up.drew|refine Up.setCell ?_ (by simp;try omega) _))) rfl (Lst.two (T:=TBox) (x:=⟨X0,X1,X2,X3,X4,X5,X6,X7⟩) (y:=⟨Y0,Y1,Y2,Y3,Y4,Y5,Y6,Y7⟩) (show Box _ W4.heap.size #[.int .i64 X0,.int .i64 X1,.int .i64 X2,.int .i64 X3,.int .i64 X4,.int .i64 X5,.int .i64 X6,.int .i64 X7,.int .i64 Y0,.int .i64 Y1,.int .i64 Y2,.int .i64 Y3,.int .i64 Y4,.int .i64 Y5,.int .i64 Y6,.int .i64 Y7] 69 from Box.mk (by simp))) (by have:=HL5.out;simp;omega) (by decide) ?_
               intro v8 W8 hu8 ho8 _
               have H8:=hide (And.intro (HV.out.up hu8) (And.intro hu8 ho8))
               clear hu8 ho8 H4
               go_wp2_with fail
               refine HK.out _ _ (fun _=>⟨H8.out.1.x,H8.out.1.y⟩) ?_
               clear HK
               refine anyL_one (i:=10) (by kernel_rfl) rfl (fun K HK=>?_)
               refine wpList_more elem_box rfl (.tmp 78) (.tmp 79) rfl (w0:=V) H8.out.2.1 (Nat.le_refl _) H8.out.2.1.below.size rfl H8.out.2.2 rfl (H8.out.1.r.lies (Nat.le_trans HR5.out (by decide))) (by have:=HL5.out;have:=HR5.out;simp;omega) (by decide) ?_
               intro v10 W10 hu10 ho10 _
               have HN:=hide (CeS.next (k:=k) HUJ.out HV.out.u hu10 hk hlt HOKL.out HXY.out.1 HXY.out.2 HLT.out HLR.out ho10)
               have H10:=hide (HV.out.up hu10)
               clear hu10 ho10 H8
               go_wp2_with fail
               refine HK.out _ _ (fun _=>⟨H10.out.x,H10.out.y⟩) ?_
               clear HK
               refine anyL_one (i:=11) (by kernel_rfl) rfl (fun K HK=>?_)
               go_wp2_with fail
               refine HK.out _ _ (fun h=>(h rfl).elim) ?_
               clear HK
               refine anyL_done (by kernel_rfl) ?_
               go_wp2_with fail
               go_roundw
               case rel=>exact ⟨_,hide HN.out.1⟩
               case measure =>
                show n - lenV v10<n - l.length
                rw [show lenV v10=l.length+1 from HN.out.2]
                omega
             · skip
               go_wp2_with fail
               refine HK.out _ _ (fun _=>⟨by (repeat (first|with_reducible apply Box.alloc|with_reducible apply Box.ext));exact HV.out.x,by (repeat (first|with_reducible apply Box.alloc|with_reducible apply Box.ext));exact HV.out.y⟩) ?_
               clear HK
               refine anyL_one (i:=4) (by kernel_rfl) rfl (fun K HK=>?_)
               refine wpList_copy elem_box rfl (.tmp 70) (.tmp 73) rfl (w0:=V) (by repeat (first|with_reducible (first|exact Up.refl _|apply Up.plus)|apply Up.ext|apply Up.alloc|apply Up.drew|refine Up.setCell ?_ (by simp;try omega) _)) rfl (show Box _ (V.heap.size) #[] 69 from Box.alloc (Box.mk (by simp)) _) (by omega) rfl (l:=lt) (K:=fun _=>True) (by rw [HLT.out];exact ((((HV.out.o.lies (by omega)).mono (K':=fun _=>True) fun _ _ _=>trivial).take (by omega) _).up (by repeat (first|with_reducible (first|exact Up.refl _|apply Up.plus)|apply Up.ext|apply Up.alloc|apply Up.drew|refine Up.setCell ?_ (by simp;try omega) _)))) (Nat.le_trans HL5.out (by decide)) (by decide) ?_
               intro g4 c4 W4 hu4 ho4 hk4
               have H4:=hide (And.intro (HV.out.up hu4) (And.intro hu4 (And.intro ho4 (show Box W4 (V.heap.size+1) #[.int .i64 X0,.int .i64 X1,.int .i64 X2,.int .i64 X3,.int .i64 X4,.int .i64 X5,.int .i64 X6,.int .i64 X7,.int .i64 Y0,.int .i64 Y1,.int .i64 Y2,.int .i64 Y3,.int .i64 Y4,.int .i64 Y5,.int .i64 Y6,.int .i64 Y7] 69 from hk4 _ _ _ (by omega) (Box.mk (by simp))))))
               clear hu4 ho4 hk4
               go_wp2_with fail
               refine HK.out _ _ (fun _=>⟨by (repeat (first|with_reducible apply Box.alloc|with_reducible apply Box.ext));exact H4.out.1.x,by (repeat (first|with_reducible apply Box.alloc|with_reducible apply Box.ext));exact H4.out.1.y⟩) ?_
               clear HK
               refine anyL_one (i:=8) (by kernel_rfl) rfl (fun K HK=>?_)
               refine wpList_more elem_box rfl (.tmp 74) (.tmp 77) rfl (w0:=V) (H4.out.2.1.trans (by repeat (first|with_reducible (first|exact Up.refl _|apply Up.plus)|apply Up.ext|apply Up.alloc|apply Up.drew|refine Up.setCell ?_ (by simp;try omega) _))) (Nat.le_refl _) (Nat.le_trans H4.out.2.1.below.size (by simp)) rfl (H4.out.2.2.1.up (by repeat (first|with_reducible (first|exact Up.refl _|apply Up.plus)|apply Up.ext|apply Up.alloc|apply Up.drew|refine Up.setCell ?_ (by simp;try omega) _))) rfl (Lst.two (T:=TBox) (x:=⟨X0,X1,X2,X3,X4,X5,X6,X7⟩) (y:=⟨Y0,Y1,Y2,Y3,Y4,Y5,Y6,Y7⟩) H4.out.2.2.2) (by have:=HL5.out;simp;omega) (by decide) ?_
               intro v8 W8 hu8 ho8 _
               have H8:=hide (And.intro (HV.out.up hu8) (And.intro hu8 ho8))
               clear hu8 ho8 H4
               go_wp2_with fail
               refine HK.out _ _ (fun _=>⟨H8.out.1.x,H8.out.1.y⟩) ?_
               clear HK
               refine anyL_one (i:=10) (by kernel_rfl) rfl (fun K HK=>?_)
               refine wpList_more elem_box rfl (.tmp 78) (.tmp 79) rfl (w0:=V) H8.out.2.1 (Nat.le_refl _) H8.out.2.1.below.size rfl H8.out.2.2 rfl (H8.out.1.r.lies (Nat.le_trans HR5.out (by decide))) (by have:=HL5.out;have:=HR5.out;simp;omega) (by decide) ?_
               intro v10 W10 hu10 ho10 _
               have HN:=hide (CeS.next (k:=k) HUJ.out HV.out.u hu10 hk hlt HOKL.out HXY.out.1 HXY.out.2 HLT.out HLR.out ho10)
               have H10:=hide (HV.out.up hu10)
               clear hu10 ho10 H8
               go_wp2_with fail
               refine HK.out _ _ (fun _=>⟨H10.out.x,H10.out.y⟩) ?_
               clear HK
               refine anyL_one (i:=11) (by kernel_rfl) rfl (fun K HK=>?_)
               go_wp2_with fail
               refine HK.out _ _ (fun h=>(h rfl).elim) ?_
               clear HK
               refine anyL_done (by kernel_rfl) ?_
               go_wp2_with fail
               go_roundw
               case rel=>exact ⟨_,hide HN.out.1⟩
               case measure =>
                show n - lenV v10<n - l.length
                rw [show lenV v10=l.length+1 from HN.out.2]
                omega
           · skip
             go_wp2_with fail
             refine HK.out _ _ (fun _=>⟨by (repeat (first|with_reducible apply Box.alloc|with_reducible apply Box.ext));exact HV.out.x,by (repeat (first|with_reducible apply Box.alloc|with_reducible apply Box.ext));exact HV.out.y⟩) ?_
             clear HK
             refine anyL_one (i:=0) (by kernel_rfl) rfl (fun K HK=>?_)
             go_wp2_with fail
             refine HK.out _ _ (fun _=>⟨by (repeat (first|with_reducible apply Box.alloc|with_reducible apply Box.ext));exact HV.out.x,by (repeat (first|with_reducible apply Box.alloc|with_reducible apply Box.ext));exact HV.out.y⟩) ?_
             clear HK
             refine anyL_one (i:=4) (by kernel_rfl) rfl (fun K HK=>?_)
             refine wpList_copy elem_box rfl (.tmp 70) (.tmp 73) rfl (w0:=V) (by repeat (first|with_reducible (first|exact Up.refl _|apply Up.plus)|apply Up.ext|apply Up.alloc|apply Up.drew|refine Up.setCell ?_ (by simp;try omega) _)) rfl (show Box _ (V.heap.size+1) #[] 69 from Box.mk (by simp)) (by omega) rfl (l:=lt) (K:=fun _=>True) (by rw [HLT.out];exact ((((HV.out.o.lies (by omega)).mono (K':=fun _=>True) fun _ _ _=>trivial).take (by omega) _).up (by repeat (first|with_reducible (first|exact Up.refl _|apply Up.plus)|apply Up.ext|apply Up.alloc|apply Up.drew|refine Up.setCell ?_ (by simp;try omega) _)))) (Nat.le_trans HL5.out (by decide)) (by decide) ?_
             intro g4 c4 W4 hu4 ho4 hk4
             have H4:=hide (And.intro (HV.out.up hu4) (And.intro hu4 (And.intro ho4 (show Box W4 (V.heap.size) #[.int .i64 X0,.int .i64 X1,.int .i64 X2,.int .i64 X3,.int .i64 X4,.int .i64 X5,.int .i64 X6,.int .i64 X7,.int .i64 Y0,.int .i64 Y1,.int .i64 Y2,.int .i64 Y3,.int .i64 Y4,.int .i64 Y5,.int .i64 Y6,.int .i64 Y7] 69 from hk4 _ _ _ (by omega) (Box.alloc (Box.mk (by simp)) _)))))
             clear hu4 ho4 hk4
             go_wp2_with fail
             refine HK.out _ _ (fun _=>⟨by (repeat (first|with_reducible apply Box.alloc|with_reducible apply Box.ext));exact H4.out.1.x,by (repeat (first|with_reducible apply Box.alloc|with_reducible apply Box.ext));exact H4.out.1.y⟩) ?_
             clear HK
             refine anyL_one (i:=8) (by kernel_rfl) rfl (fun K HK=>?_)
             refine wpList_more elem_box rfl (.tmp 74) (.tmp 77) rfl (w0:=V) (H4.out.2.1.trans (by repeat (first|with_reducible (first|exact Up.refl _|apply Up.plus)|apply Up.ext|apply Up.alloc|apply Up.drew|refine Up.setCell ?_ (by simp;try omega) _))) (Nat.le_refl _) (Nat.le_trans H4.out.2.1.below.size (by simp)) rfl (H4.out.2.2.1.up (by repeat (first|with_reducible (first|exact Up.refl _|apply Up.plus)|apply Up.ext|apply Up.alloc|apply Up.drew|refine Up.setCell ?_ (by simp;try omega) _))) rfl (Lst.two (T:=TBox) (x:=⟨X0,X1,X2,X3,X4,X5,X6,X7⟩) (y:=⟨Y0,Y1,Y2,Y3,Y4,Y5,Y6,Y7⟩) H4.out.2.2.2) (by have:=HL5.out;simp;omega) (by decide) ?_
             intro v8 W8 hu8 ho8 _
             have H8:=hide (And.intro (HV.out.up hu8) (And.intro hu8 ho8))
             clear hu8 ho8 H4
             go_wp2_with fail
             refine HK.out _ _ (fun _=>⟨H8.out.1.x,H8.out.1.y⟩) ?_
             clear HK
             refine anyL_one (i:=10) (by kernel_rfl) rfl (fun K HK=>?_)
             refine wpList_more elem_box rfl (.tmp 78) (.tmp 79) rfl (w0:=V) H8.out.2.1 (Nat.le_refl _) H8.out.2.1.below.size rfl H8.out.2.2 rfl (H8.out.1.r.lies (Nat.le_trans HR5.out (by decide))) (by have:=HL5.out;have:=HR5.out;simp;omega) (by decide) ?_
             intro v10 W10 hu10 ho10 _
             have HN:=hide (CeS.next (k:=k) HUJ.out HV.out.u hu10 hk hlt HOKL.out HXY.out.1 HXY.out.2 HLT.out HLR.out ho10)
             have H10:=hide (HV.out.up hu10)
             clear hu10 ho10 H8
             go_wp2_with fail
             refine HK.out _ _ (fun _=>⟨H10.out.x,H10.out.y⟩) ?_
             clear HK
             refine anyL_one (i:=11) (by kernel_rfl) rfl (fun K HK=>?_)
             go_wp2_with fail
             refine HK.out _ _ (fun h=>(h rfl).elim) ?_
             clear HK
             refine anyL_done (by kernel_rfl) ?_
             go_wp2_with fail
             go_roundw
             case rel=>exact ⟨_,hide HN.out.1⟩
             case measure =>
              show n - lenV v10<n - l.length
              rw [show lenV v10=l.length+1 from HN.out.2]
              omega
  · have hlb:decide ((l.length:Int)<n)=false:=by simp;omega
    have hln:decide (l.length<n)=false:=by simp;omega
    go_wp2_with fail
    obtain ⟨pe,hpe⟩:=HI.out.u
    exact bodyPost_ret (v:=.tuple #[.slice (some ⟨g,0,none⟩) l.length c,.int .i64 0]) (by simp [results,Tryz.results78,go_sem]) rfl ⟨_,_,_,l,pe,rfl,boxes_of (HI.out.o.lies (by omega)),⟨hl0,hl1⟩,HI.out.ok,hpe⟩
theorem kcells_any {b:BoxD} (hb:BOk b) {n:Nat} (hn0:1≤n) (hn1:n≤512) (w:World):Calls Tryz.prog 40 #[.agg (boxA b),.int .i64 n] w fun e W=>∃ (a:Option Addr) (m c:Nat) (l:List BoxD) (p:Ext),e=.returned (.slice a m c)∧Boxes (fun q=>w.heap.size≤q) W (.slice a m c) l∧(1≤l.length∧l.length≤n)∧(∀ x∈l,BOk x)∧W=ext w p:=by
 have HC:=hide (fun W=>qcells_any hb hn0 hn1 W)
 clear hb
 obtain ⟨x0,x1,y0,y1,u0,u1,v0,v1⟩:=b
 unfold boxA at HC ⊢
 dsimp only at HC ⊢
 go_enter Tryz.func40,Tryz.ntmps40
 go_wp2_with fail
 go_at_call 78
 refine (HC.out _).mono ?_
 rintro _ _ ⟨a,m,c,l,p,rfl,hl,hn,hk,rfl⟩
 have HL:=hide (And.intro hl (And.intro hn hk))
 clear hl hn hk HC
 go_wp2_with fail
 have hu:Up w (ext (w.alloc (.cells #[.int .i64 (x0),.int .i64 (x1),.int .i64 (y0),.int .i64 (y1),.int .i64 (u0),.int .i64 (u1),.int .i64 (v0),.int .i64 (v1)] 69)) p):=(by repeat (first|with_reducible (first|exact Up.refl _|apply Up.plus)|apply Up.ext|apply Up.alloc|apply Up.drew|refine Up.setCell ?_ (by simp;try omega) _))
 obtain ⟨q,hq⟩:=hu
 exact bodyPost_ret (v:=.slice a m c) (by simp [results,Tryz.results40,go_sem]) rfl ⟨a,m,c,l,q,rfl,HL.out.1.mono (fun b _ hb=>by simp at hb;omega),HL.out.2.1,HL.out.2.2,hq⟩
end Go.Proofs.YteafglginnonnaaGreat
/- Offers made of numbers: plain parts; a sight made of numbers in a world in which the ring has been asked. Conditions: bounded numbers, what lies in memory. -/
namespace Go.Proofs.YteafglginnonnaaGreat
open Go.RowKit Go.Shelf
theorem offE_mk {s:SkyD} (hs:skyE s=0) {kind st cat tick dx dy err far wide cost:Int} {sure:Bool} (hk:kind=1∨kind=2) (ht:0≤tick∧tick≤1000000) (hst:(s.stations.any fun x=>x.1==st)=true) (hct:(s.catalogs.any fun x=>x.1==cat)=true)
 (hd:(-4096≤dx∧dx≤4096)∧(-4096≤dy∧dy≤4096)∧¬ (dx=0∧dy=0)) (he:0≤err∧err≤500000) (hf:1≤far∧far≤134217728) (hw:0≤wide∧wide≤1000000) (hc:0≤cost∧cost≤1000) :
 offE s ⟨kind,st,cat,tick,dx,dy,err,far,wide,cost,sure⟩=0:=by
 have wt:∀ {x a b:Int},a≤x→x≤b→withinB x a b=true:=fun h1 h2=>by unfold withinB;exact decide_eq_true ⟨h1,h2⟩
 unfold offE offE0
 rw [if_pos hs]
 dsimp only
 rw [if_neg (by omega),if_neg (by rw [wt (by omega) (by omega)];simp),if_neg (by rw [hst];simp),if_neg (by rw [wt he.1 he.2,wt hf.1 hf.2,wt hc.1 hc.2];simp)]
 by_cases h2:kind=2
 · rw [if_pos h2]
 · rw [if_neg h2,if_neg (by rw [hct];simp),if_neg]
   rw [wt hd.1.1 hd.1.2,wt hd.2.1.1 hd.2.1.2,wt hw.1 hw.2]
   have:(dx==0&&dy==0)=false:=by
    have:=hd.2.2
    rw [Bool.eq_false_iff]
    intro h
    simp at h
    exact this h
   rw [this]
   simp
theorem sightof_at {w:World} {sl:Value} (hN:Nums w sl) {B:Nat} (hB:w.heap.size≤B) {K:Nat→Prop} (hK:∀ b,K b→b≠B) {a sa ca:Option Addr} {n c sn sc cn cc:Nat} {s:SkyD} {tick px py:Int} (hs:skyE s=0) (hn1:0<sn) (hn2:0<cn) (k0:0≤tick∧tick≤1000000) (hp:(-32000000≤px∧px≤32000000) ∧ -32000000≤py∧py≤32000000)
 {t:Int} {W V:World} (hu:Up w W) (hb:Box W B #[sl,.int .i64 t] 98) (hL:SkyL K W a n c sa sn sc ca cn cc s) {m:Int} (hW:RingAt W B m V) (hm:m+8≤100000) :
 Calls Tryz.prog 79 #[.pointer (some ⟨B,0,none⟩),.agg #[.slice a n c,.int .i64 s.home,.slice sa sn sc,.slice ca cn cc],.int .i64 tick,.agg #[.int .i64 (px),.int .i64 (py)]] V fun e W'=>∃ v,e=.returned v∧RSight s tick v∧RingAt W B (m+8) W'∧V.grownBy W' (some B):=by
 obtain ⟨t1,h0,h1,hbW⟩:=hW.box hb
 refine (sightof_any hN hB hK hs hn1 hn2 k0 hp t1 V (hW.up hu hB) hbW (hL.keeps (hW.keepsK hK)) h0 (by omega)).mono ?_
 rintro e W' ⟨v,t',p',he,h2,h3,h4,rfl⟩
 exact ⟨v,he,h2,hW.called hb.lt h3 (by omega) p',grown_up (grown_set (grown_refl _ _) _ _) ((Up.refl _).ext _)⟩
end Go.Proofs.YteafglginnonnaaGreat
