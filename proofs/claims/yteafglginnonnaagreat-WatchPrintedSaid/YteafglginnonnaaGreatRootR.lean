/- Several texts in one. -/
import Derived.Test.YteafglginnonnaaGreatOwn
import Derived.Test.YteafglginnonnaaGreatPush
import Derived.Test.YteafglginnonnaaGreatForceM
import Derived.Test.YteafglginnonnaaGreatSpanB
/- Package orbit: sets stepped, propagated. Conditions: what lies in memory, valid boxes. -/
set_option linter.unusedVariables false
set_option linter.unusedSimpArgs false
namespace Go.Proofs.YteafglginnonnaaGreat
open Go.RowKit Go.Shelf
def TBox:Rw BoxD:=⟨8,fun b=>[.int .i64 b.x0,.int .i64 b.x1,.int .i64 b.y0,.int .i64 b.y1,.int .i64 b.u0,.int .i64 b.u1,.int .i64 b.v0,.int .i64 b.v1],by decide,fun _=>rfl,fun _ u hu=>by simp only [List.mem_cons,List.not_mem_nil,or_false] at hu;rcases hu with rfl | rfl | rfl | rfl | rfl | rfl | rfl | rfl <;> rfl⟩
theorem Tryz.infobox:(Tryz.prog.info? 69).map (fun i=>(i.zero,i.size,i.bytes))=some (some (.agg #[.int .i64 (0),.int .i64 (0),.int .i64 (0),.int .i64 (0),.int .i64 (0),.int .i64 (0),.int .i64 (0),.int .i64 (0)]),8,64):=by kernel_rfl
theorem elem_box:ElemOk Tryz.prog TBox 34 69 64:=by
 obtain ⟨i,h1,h2,h3,h4⟩:=info_parts Tryz.infobox
 exact ⟨Tryz.underlying34,i,_,h1,h2,h3,h4,rfl⟩
theorem boxes_of {K:Nat→Prop} {w:World} {v:Value} {l:List BoxD} (h:Lst TBox K w v l):Boxes K w v l:=h
theorem of_boxes {K:Nat→Prop} {w:World} {v:Value} {l:List BoxD} (h:Boxes K w v l):Lst TBox K w v l:=h
@[go_sem] theorem nil_box (a:Addr) (n c:Nat) (w:World):(binOp .eql 34 (.slice (some a) n c) (.slice none 0 0)).run Tryz.prog w=.ok (.bool false) w:=by kernel_rfl
@[go_sem] theorem nil_box0 (n c:Nat) (w:World):(binOp .eql 34 (.slice none n c) (.slice none 0 0)).run Tryz.prog w=.ok (.bool true) w:=by kernel_rfl
def GivesList (w:World) (l:List BoxD) (y:Value) (e:Ending) (W:World):Prop:=∃ (a:Option Addr) (n c:Nat) (p:Ext),e=.returned (.tuple #[.slice a n c,y])∧Boxes (fun b=>w.heap.size≤b) W (.slice a n c) l∧W=ext w p
set_option maxRecDepth 100000 in
set_option maxHeartbeats 4000000 in
theorem oway_any {K:Nat→Prop} {w:World} {a:Option Addr} {n c:Nat} {l:List BoxD} (hl:Boxes K w (.slice a n c) l) (t m:Int):Gives Tryz.prog 83 #[.int .i64 t,.int .i64 m,.slice a n c] w (.int .i64 (wayE t m l)):=by
 have HS:=hide (fun W (hu:Up w W)=>oset_any (hl.keeps (hu.keeps K)))
 unfold wayE spanE
 generalize setE l=E at *
 clear hl
 by_cases h0:m<0
 · rw [if_neg (show ¬ (0≤m∧m≤400∧0≤t∧t≤1073741824 - m) by omega),if_neg (by decide)]
   have d0:decide (m<0)=true:=decide_eq_true h0
   (unfold Gives;go_enter Tryz.func83,Tryz.ntmps83)
   go_wp2
   go_ret
   exact ⟨rfl,Up.go⟩
 have d0:decide (m<0)=false:=decide_eq_false h0
 by_cases h1:400<m
 · rw [if_neg (show ¬ (0≤m∧m≤400∧0≤t∧t≤1073741824 - m) by omega),if_neg (by decide)]
   have d1:decide (400<m)=true:=decide_eq_true h1
   (unfold Gives;go_enter Tryz.func83,Tryz.ntmps83)
   go_wp2
   go_ret
   exact ⟨rfl,Up.go⟩
 have d1:decide (400<m)=false:=decide_eq_false h1
 have HW:=hide (fun W=>owithin_any t 0 (1073741824 - m) W)
 by_cases h2:withinB t 0 (1073741824 - m)=true
 · have h3:0≤t∧t≤1073741824 - m:=by simpa [withinB] using h2
   rw [if_pos (show 0≤m∧m≤400∧0≤t∧t≤1073741824 - m by omega),if_pos rfl]
   rw [h2] at HW
   clear h2 h3
   (unfold Gives;go_enter Tryz.func83,Tryz.ntmps83)
   go_wp2_with (first|(go_at_call 66;(with_reducible refine (HW.out _).mono ?_);intro _)|(go_at_call 130;(with_reducible refine (HS.out _ Up.go).mono ?_);intro _))
   go_ret
   exact ⟨rfl,Up.go⟩
 · have h2':withinB t 0 (1073741824 - m)=false:=by simpa using h2
   have h3:¬ (0≤t∧t≤1073741824 - m):=by simpa [withinB] using h2
   rw [if_neg (show ¬ (0≤m∧m≤400∧0≤t∧t≤1073741824 - m) by omega),if_neg (by decide)]
   rw [h2'] at HW
   clear h2 h3 h2'
   (unfold Gives;go_enter Tryz.func83,Tryz.ntmps83)
   go_wp2_with (first|(go_at_call 66;(with_reducible refine (HW.out _).mono ?_);intro _)|(go_at_call 130;(with_reducible refine (HS.out _ Up.go).mono ?_);intro _))
   go_ret
   exact ⟨rfl,Up.go⟩
set_option maxRecDepth 100000 in
set_option maxHeartbeats 4000000 in
theorem oclone_any {K:Nat→Prop} {w:World} {a:Option Addr} {n c:Nat} {l:List BoxD} (hl:Boxes K w (.slice a n c) l) (hn:l.length≤100000):Calls Tryz.prog 84 #[.slice a n c] w fun e W=>∃ (a':Option Addr) (n' c':Nat) (p:Ext),e=.returned (.slice a' n' c')∧Boxes (fun b=>w.heap.size≤b) W (.slice a' n' c') l∧W=ext w p:=by
 cases a with
 | none =>
  obtain rfl:l=[]:=by
   obtain ⟨_,_,h1,_,h3⟩:=hl
   simp at h1
   refine Classical.byContradiction fun h=>?_
   obtain ⟨b,o,e,_⟩:=h3 h
   rw [← h1.1] at e
   cases e
  obtain rfl:n=0:=(Boxes.at hl).1
  clear hl
  go_enter Tryz.func84,Tryz.ntmps84
  go_wp2
  refine bodyPost_ret (v:=.slice none 0 0) (by simp [results,Tryz.results84,go_sem]) rfl ⟨none,0,0,?_⟩
  obtain ⟨p,hp⟩:Up w w:=Up.refl w
  exact ⟨p,rfl,Lies.nil _ _ _ _ _ _,hp⟩
 | some ad =>
  have HL:=hide hl
  clear hl
  go_enter Tryz.func84,Tryz.ntmps84
  go_wp2_with (at_builtin;with_reducible refine stopA rfl ?_)
  refine hide ?_
  refine wpList_copy elem_box rfl (.tmp 5) (.tmp 6) rfl (w0:=w) (W:=w.alloc (.cells #[] 69)) Up.go rfl (Box.mk rfl) (Nat.le_refl _) rfl ((of_boxes HL.out).up Up.go) hn (by decide) ?_
  intro g cap W' hu ho _
  have HE:=hide (show ∃ p,Boxes (fun b=>w.heap.size≤b) W' (.slice (some ⟨g,0,none⟩) l.length cap) l∧W'=ext w p from let ⟨p,hp⟩:=hu;⟨p,boxes_of (ho.lies (by omega)),hp⟩)
  clear hu ho
  go_wp2
  obtain ⟨p,hb,hp⟩:=HE.out
  exact bodyPost_ret (v:=.slice (some ⟨g,0,none⟩) l.length cap) (by simp [results,Tryz.results84,go_sem]) rfl ⟨_,_,_,p,rfl,hb,hp⟩
abbrev AlS (w:World) (a:Option Addr) (n c:Nat) (home:Int) (bs:List Bod) (d:DriftD) (t:Int) (l:List BoxD) (k:Nat) (v:Value) (wr:World):Prop :=
 Up w wr∧Box wr w.heap.size #[.slice a n c,.int .i64 home] 25∧Box wr (w.heap.size+1) #[.int .i64 (d.l.1),.int .i64 (d.l.2),.int .i64 (d.h.1),.int .i64 (d.h.2),.int .i64 (d.g)] 33∧Own TBox 69 (w.heap.size+2) wr v ((l.take k).map (stepV bs d t))∧stepsV bs d t (l.take k)=some ((l.take k).map (stepV bs d t))
set_option maxRecDepth 100000 in
set_option maxHeartbeats 20000000 in
theorem oall_any {K:Nat→Prop} {w:World} {a:Option Addr} {n c:Nat} {bs:List Bod} {home:Int} (hl:Bods K w (.slice a n c) bs) (hh:I64 home) (d:DriftD) (hw:worldDE bs home d=0) {t:Int} (ht:0≤t∧t≤1073741824) {KB:Nat→Prop} {ba:Option Addr} {bn bc:Nat} {l:List BoxD} (hL:Boxes KB w (.slice ba bn bc) l) (hok:∀ b∈l,BOk b) (hn:l.length≤512) :
 Calls Tryz.prog 85 #[.agg #[.slice a n c,.int .i64 home],.agg #[.int .i64 (d.l.1),.int .i64 (d.l.2),.int .i64 (d.h.1),.int .i64 (d.h.2),.int .i64 (d.g)],.int .i64 t,.slice ba bn bc] w (GivesList w ((stepsV bs d t l).getD []) (.bool (stepsV bs d t l).isSome)):=by
 have hbn:=(Boxes.at hL).1
 have HB:=hide hL
 have HST:=hide (fun (b:BoxD) (hb:BOk b) W (hu:Up w W)=>ostep_any (hl.keeps (hu.keeps K)) hh d hw ht hb)
 have HN:=hide (And.intro hbn (And.intro hok hn))
 have hb5:bn≤512:=by omega
 clear hL hl hw ht hh hbn hok hn
 go_enter Tryz.func85,Tryz.ntmps85
 go_wp2
 go_loopw [10,17] (fun s10 s17 wr=>∃ k:Nat,k≤bn∧s17=.int .i64 k∧Hid (AlS w a n c home bs d t l k s10 wr)) (fun _ s17 _=>bn - (intOf s17).toNat)
 case atStart=>exact ⟨0,by omega,rfl,hide ⟨Up.go,Box.go,Box.go,by simpa using Own.nil TBox 69 (w.heap.size+2) _,by simp [stepsV]⟩⟩
 case round =>
  obtain ⟨k,hk,rfl,HI⟩:=hrel
  obtain ⟨w0,w1⟩:=HI.out.2.1.c2
  have lw:=HI.out.2.1.lt
  obtain ⟨d0,d1,d2,d3,d4⟩:=HI.out.2.2.1.c5
  have ld:=HI.out.2.2.1.lt
  by_cases hlt:k<bn
  · obtain ⟨b,o,p,rfl,hKb,hbw,hp,c0,c1,c2,c3,c4,c5,c6,c7⟩:=(Boxes.at (HB.out.keeps (HI.out.1.keeps KB))).2.2 k hlt
    have hkb:decide ((k:Int)<bn)=true:=by simp;omega
    have hbk:=HN.out.2.1 p (List.mem_of_getElem? hp)
    have HP:=hide (And.intro hp hbk)
    have HS:=hide (HST.out p hbk)
    clear hp hKb hbk
    by_cases hF:boxE (stepV bs d t p)=0
    · have HF:=hide hF
      rw [show (boxE (stepV bs d t p)==0)=true by simp [hF]] at HS
      clear hF
      have HG:=hide (stepsV_take HP.out.1 HF.out HI.out.2.2.2.2)
      have HM:=hide (show (l.take (k+1)).map (stepV bs d t)=(l.take k).map (stepV bs d t)++[stepV bs d t p] by rw [List.take_add_one,HP.out.1];simp)
      have hlen:((l.take k).map (stepV bs d t)).length=k:=by have:=HN.out.1;simp;omega
      have HLE:=hide hlen
      clear hlen
      generalize stepV bs d t p=S at HS HF HM
      obtain ⟨x0,x1,y0,y1,u0,u1,v0,v1⟩:=S
      obtain ⟨px0,px1,py0,py1,pu0,pu1,pv0,pv1⟩:=p
      unfold boxA at HS
      dsimp only at HS c0 c1 c2 c3 c4 c5 c6 c7
      go_wp2_with fail
      go_at_call 131
      refine (HS.out _ (Up.viz HI.out.1)).mono ?_
      intro q1
      go_wp2_with (at_builtin;with_reducible refine stopA rfl ?_)
      refine hide ?_
      refine wpList_push elem_box rfl (.tmp 31) (.tmp 33) rfl (w0:=w) ((Up.viz HI.out.1)) (base:=w.heap.size+2) (by omega) (by simp;omega) rfl (HI.out.2.2.2.1.up ((Up.refl wr).alloc _ |>.ext _ |>.alloc _ |>.alloc _)) (by rw [HLE.out];omega) (by decide) ⟨x0,x1,y0,y1,u0,u1,v0,v1⟩ rfl (Box.mk (by simp)) ?_
      intro g cap W' hu ho hbx
      rw [HLE.out]
      have HJ:=hide (show AlS w a n c home bs d t l (k+1) (.slice (some ⟨g,0,none⟩) (k+1) cap) W' from ⟨hu,hbx _ _ _ (fun e=>by have:=(HI.out.2.2.2.1.lt _ e).1;omega) (Box.viz HI.out.2.1),hbx _ _ _ (fun e=>by have:=(HI.out.2.2.2.1.lt _ e).1;omega) (Box.viz HI.out.2.2.1),by rw [HM.out];rw [HLE.out] at ho;exact ho,HG.out⟩)
      clear hu ho hbx
      go_wp2
      go_roundw
      case rel=>exact ⟨k+1,by omega,by go_num,HJ⟩
      case measure=>simp [intOf];omega
    · have HF:=hide (stepsV_lost HP.out.1 hF)
      rw [show (boxE (stepV bs d t p)==0)=false by simp [hF]] at HS
      clear hF
      generalize stepV bs d t p=S at HS
      obtain ⟨x0,x1,y0,y1,u0,u1,v0,v1⟩:=S
      obtain ⟨px0,px1,py0,py1,pu0,pu1,pv0,pv1⟩:=p
      unfold boxA at HS
      dsimp only at HS c0 c1 c2 c3 c4 c5 c6 c7
      go_wp2_with fail
      go_at_call 131
      refine (HS.out _ (Up.viz HI.out.1)).mono ?_
      intro q1
      go_wp2
      refine forgetW (fun WF=>Up w WF) (Up.viz HI.out.1) ?_
      rintro WF ⟨p,hp⟩
      exact bodyPost_ret (v:=.tuple #[.slice none 0 0,.bool false]) (by simp [results,Tryz.results85,go_sem]) rfl ⟨none,0,0,p,by rw [HF.out];rfl,by rw [HF.out];exact Lies.nil _ _ _ _ _ _,hp⟩
  · have hkb:decide ((k:Int)<bn)=false:=by simp;omega
    have HE:=hide (show ∃ (a':Option Addr) (c':Nat) (p:Ext),u10=.slice a' bn c'∧Boxes (fun b=>w.heap.size≤b) wr u10 ((stepsV bs d t l).getD [])∧(stepsV bs d t l).isSome=true∧wr=ext w p by
     have hkl:k=l.length:=by have:=HN.out.1;omega
     have h4:=HI.out.2.2.2.1
     have h5:=HI.out.2.2.2.2
     rw [hkl,List.take_length] at h4 h5
     obtain ⟨a',c',e⟩:=h4.form
     obtain ⟨p,hp⟩:=HI.out.1
     refine ⟨a',c',p,?_,?_,by rw [h5];rfl,hp⟩
     · rw [e,List.length_map,← HN.out.1]
     · rw [h5]
       exact (boxes_of (h4.lies (by have:=HN.out.2.2;simp;omega))).mono (fun b _ hb=>by omega))
    obtain ⟨a',c',p,e1,hbx,his,hp⟩:=HE.out
    subst e1
    have HE2:=hide (And.intro hbx (And.intro his hp))
    clear HE hbx his hp HI w0 w1 lw d0 d1 d2 d3 d4 ld
    go_wp2
    exact bodyPost_ret (v:=.tuple #[.slice a' bn c',.bool true]) (by simp [results,Tryz.results85,go_sem]) rfl ⟨a',bn,c',p,by rw [HE2.out.2.1],HE2.out.1,HE2.out.2.2⟩
theorem propV_more (bs:List Bod) (d:DriftD) (t:Int) (l:List BoxD) (k:Nat) (h:propV bs d k t l=none):∀ j,propV bs d (k+j) t l=none
 | 0=>h
 | j+1=>by rw [← Nat.add_assoc,propV_succ,propV_more bs d t l k h j];rfl
theorem propV_none {bs:List Bod} {d:DriftD} {t:Int} {l:List BoxD} {k m:Nat} (h:propV bs d k t l=none) (hm:k≤m):propV bs d m t l=none:=by
 obtain ⟨j,rfl⟩:=Nat.exists_eq_add_of_le hm
 exact propV_more bs d t l k h j
theorem setE_zero {l:List BoxD} (h:setE l=0):l.length≤512∧∀ b∈l,BOk b:=by
 unfold setE at h
 by_cases h5:512<l.length
 · rw [if_pos h5] at h;cases h
 · rw [if_neg h5] at h
   refine ⟨by omega,?_⟩
   clear h5
   induction l with
   | nil=>intro b hb;cases hb
   | cons x l ih =>
    unfold firstE at h
    by_cases hx:boxE x=0
    · rw [if_pos hx] at h
      intro b hb
      rcases List.mem_cons.1 hb with rfl | hb
      · exact (boxE_ok _).1 hx
      · exact ih h b hb
    · rw [if_neg hx] at h;exact absurd h hx
theorem propE_zero {bs:List Bod} {home:Int} {d:DriftD} {t m:Int} {l:List BoxD} (h:propE bs home d t m l=0):worldDE bs home d=0∧(0≤m∧m≤400∧0≤t∧t≤1073741824 - m)∧setE l=0:=by
 unfold propE wayE spanE at h
 by_cases hw:worldDE bs home d=0
 · rw [if_pos hw] at h
   by_cases hs:0≤m∧m≤400∧0≤t∧t≤1073741824 - m
   · rw [if_pos hs,if_pos rfl] at h
     exact ⟨hw,hs,h⟩
   · rw [if_neg hs,if_neg (by decide)] at h;cases h
 · rw [if_neg hw] at h;exact absurd h hw
theorem GivesList.fin {w WF:World} {l:List BoxD} {E:Int} {a:Option Addr} {n c:Nat} (hu:Up w WF) (hb:Boxes (fun b=>w.heap.size≤b) WF (.slice a n c) l):GivesList w l (.int .i64 E) (.returned (.tuple #[.slice a n c,.int .i64 E])) WF:=let ⟨p,hp⟩:=hu;⟨a,n,c,p,rfl,hb,hp⟩
set_option maxRecDepth 100000 in
set_option maxHeartbeats 20000000 in
theorem opropagate_any {K:Nat→Prop} {w:World} {a:Option Addr} {n c:Nat} {bs:List Bod} {home:Int} (hl:Bods K w (.slice a n c) bs) (hh:I64 home) (d:DriftD) {KB:Nat→Prop} {ba:Option Addr} {bn bc:Nat} {l:List BoxD} (hL:Boxes KB w (.slice ba bn bc) l) (t m:Int) :
 Calls Tryz.prog 43 #[.agg #[.slice a n c,.int .i64 home],.agg #[.int .i64 (d.l.1),.int .i64 (d.l.2),.int .i64 (d.h.1),.int .i64 (d.h.2),.int .i64 (d.g)],.int .i64 t,.slice ba bn bc,.int .i64 m] w (GivesList w (propagateV bs home d t m l).1 (.int .i64 (propagateV bs home d t m l).2)):=by
 have HW:=hide (fun W (hu:Up w W)=>oworld_any (hl.keeps (hu.keeps K)) hh d)
 have HY:=hide (fun W (hu:Up w W)=>oway_any (hL.keeps (hu.keeps KB)) t m)
 unfold propagateV
 by_cases he:propE bs home d t m l=0
 rotate_left
 · rw [if_neg he]
   dsimp only
   unfold propE at he ⊢
   by_cases hw:worldDE bs home d=0
   · rw [if_pos hw] at he ⊢
     rw [hw] at HW
     have hE:(wayE t m l != 0)=true:=by simpa using he
     generalize wayE t m l=E at *
     clear hl hh hL he hw
     go_enter Tryz.func43,Tryz.ntmps43
     go_wp2_with (first|(go_at_call 65;(with_reducible refine (HW.out _ Up.go).mono ?_);intro _)|(go_at_call 83;(with_reducible refine (HY.out _ Up.go).mono ?_);intro _))
     refine forgetW (fun WF=>Up w WF) Up.go ?_
     rintro WF hu
     exact bodyPost_ret (v:=.tuple #[.slice none 0 0,.int .i64 E]) (by simp [results,Tryz.results43,go_sem]) rfl (GivesList.fin hu (Lies.nil _ _ _ _ _ _))
   · rw [if_neg hw] at he ⊢
     have hE:(worldDE bs home d != 0)=true:=by simpa using hw
     generalize worldDE bs home d=E at *
     clear hl hh hL he hw
     go_enter Tryz.func43,Tryz.ntmps43
     go_wp2_with (first|(go_at_call 65;(with_reducible refine (HW.out _ Up.go).mono ?_);intro _)|(go_at_call 83;(with_reducible refine (HY.out _ Up.go).mono ?_);intro _))
     refine forgetW (fun WF=>Up w WF) Up.go ?_
     rintro WF hu
     exact bodyPost_ret (v:=.tuple #[.slice none 0 0,.int .i64 E]) (by simp [results,Tryz.results43,go_sem]) rfl (GivesList.fin hu (Lies.nil _ _ _ _ _ _))
 rw [if_pos he]
 obtain ⟨hw,hsp,hset⟩:=propE_zero he
 obtain ⟨hn,hok⟩:=setE_zero hset
 have hwy:wayE t m l=0:=by unfold wayE spanE;rw [if_pos hsp,if_pos rfl,hset]
 rw [hw] at HW
 rw [hwy] at HY
 have HC:=hide (fun W (hu:Up w W)=>oclone_any (hL.keeps (hu.keeps KB)) (by omega))
 have HALL:=hide (fun (cur:List BoxD) (hok:∀ b∈cur,BOk b) (hn:cur.length≤512) (tt:Int) (ht:0≤tt∧tt≤1073741824) W (hu:Up w W) (a':Option Addr) (n' c':Nat) (hb:Boxes (fun b=>w.heap.size≤b) W (.slice a' n' c') cur) =>
  oall_any (hl.keeps (hu.keeps K)) hh d hw ht hb hok hn)
 obtain ⟨mm,rfl⟩:=Int.eq_ofNat_of_zero_le hsp.1
 have HN:=hide (And.intro hn hok)
 clear hl hh hL he hw hset hwy hn hok
 rw [Int.toNat_natCast]
 obtain ⟨⟨RL,RE⟩,hR⟩:∃ R,optL (propV bs d mm t l)=R:=⟨_,rfl⟩
 rw [hR]
 have HR:=hide hR
 clear hR
 dsimp only
 go_enter Tryz.func43,Tryz.ntmps43
 go_wp2_with fail
 go_at_call 65
 refine forgetK (fun wr=>Up w wr∧Box wr w.heap.size #[.slice a n c,.int .i64 home] 25∧Box wr (w.heap.size+1) #[.int .i64 (d.l.1),.int .i64 (d.l.2),.int .i64 (d.h.1),.int .i64 (d.h.2),.int .i64 (d.g)] 33) ⟨Up.go,Box.go,Box.go⟩ ?_
 rintro V0 ⟨hu,b0,b1⟩
 have HB0:=hide (And.intro hu (And.intro b0 b1))
 clear hu b0 b1
 obtain ⟨w0,w1⟩:=(HB0.out.2.1).c2
 have lw:=(HB0.out.2.1).lt
 obtain ⟨dd0,dd1,dd2,dd3,dd4⟩:=(HB0.out.2.2).c5
 have ldd:=(HB0.out.2.2).lt
 refine (HW.out _ (Up.viz HB0.out.1)).mono ?_
 intro qa
 go_wp2_with (go_at_call 83;(with_reducible refine (HY.out _ (Up.viz HB0.out.1)).mono ?_);intro _)
 go_at_call 84
 refine (HC.out _ (Up.viz HB0.out.1)).mono ?_
 rintro _ _ ⟨a0,n0,c0,qb,rfl,hcl,rfl⟩
 go_wp2_with fail
 refine forgetW (fun wr=>Up w wr∧Box wr w.heap.size #[.slice a n c,.int .i64 home] 25∧Box wr (w.heap.size+1) #[.int .i64 (d.l.1),.int .i64 (d.l.2),.int .i64 (d.h.1),.int .i64 (d.h.2),.int .i64 (d.g)] 33∧Boxes (fun b=>w.heap.size≤b) wr (.slice a0 n0 c0) l) ⟨(Up.viz HB0.out.1),(Box.viz HB0.out.2.1),(Box.viz HB0.out.2.2),(by first|(rw [← ext_ext];exact boxes_of ((of_boxes hcl).mono (fun b _ hb=>by have:=(HB0.out.1).below.size;simp at hb;omega)))|exact boxes_of ((of_boxes hcl).mono (fun b _ hb=>by have:=(HB0.out.1).below.size;simp at hb;omega)))⟩ ?_
 clear hcl
 intro V9 h9
 have H0:=hide h9
 clear h9 HB0 w0 w1 lw dd0 dd1 dd2 dd3 dd4 ldd
 go_loopw [14,34] (fun s14 s34 wr=>∃ (k:Nat) (a':Option Addr) (n' c':Nat) (cur:List BoxD),k≤mm∧s34=.int .i64 k∧s14=.slice a' n' c'∧Hid ((Up w wr∧Box wr w.heap.size #[.slice a n c,.int .i64 home] 25∧Box wr (w.heap.size+1) #[.int .i64 (d.l.1),.int .i64 (d.l.2),.int .i64 (d.h.1),.int .i64 (d.h.2),.int .i64 (d.g)] 33∧Boxes (fun b=>w.heap.size≤b) wr (.slice a' n' c') cur)∧propV bs d k t l=some cur∧(∀ b∈cur,BOk b)∧cur.length≤512)) (fun _ s34 _=>mm - (intOf s34).toNat)
 case atStart=>exact ⟨0,a0,n0,c0,l,by omega,rfl,rfl,hide ⟨H0.out,rfl,HN.out.2,HN.out.1⟩⟩
 case round =>
  obtain ⟨k,a',n',c',cur,hk,rfl,rfl,HI⟩:=hrel
  clear H0
  obtain ⟨w0,w1⟩:=HI.out.1.2.1.c2
  have lw:=HI.out.1.2.1.lt
  obtain ⟨dd0,dd1,dd2,dd3,dd4⟩:=HI.out.1.2.2.1.c5
  have ldd:=HI.out.1.2.2.1.lt
  by_cases hlt:k<mm
  · have hkb:decide ((k:Int)<mm)=true:=by simp;omega
    have hkn:decide (k<mm)=true:=by simp;omega
    have HA:=hide (HALL.out cur HI.out.2.2.1 HI.out.2.2.2 (t+k) ⟨by omega,by omega⟩ wr HI.out.1.1 a' n' c' HI.out.1.2.2.2)
    rcases hS:stepsV bs d (t+k) cur with _ | nx
    · rw [hS] at HA
      have HF:=hide (show propV bs d mm t l=none from propV_none (k:=k+1) (by rw [propV_succ,HI.out.2.1];exact hS) (by omega))
      clear hS
      go_wp2_with fail
      go_at_call 85
      refine HA.out.mono ?_
      rintro _ _ ⟨ax,nx,cx,px,rfl,hbx,rfl⟩
      clear hbx HA
      obtain ⟨rfl,rfl⟩:[]=RL∧14=RE:=by have:=HR.out;rw [HF.out] at this;cases this;exact ⟨rfl,rfl⟩
      go_wp2
      refine forgetW (fun WF=>Up w WF) (Up.viz HI.out.1.1) ?_
      rintro WF hu
      exact bodyPost_ret (v:=.tuple #[.slice none 0 0,.int .i64 14]) (by simp [results,Tryz.results43,go_sem]) rfl (GivesList.fin hu (Lies.nil _ _ _ _ _ _))
    · rw [hS] at HA
      obtain ⟨hmap,hbk⟩:=stepsV_some hS
      have HF:=hide (show propV bs d (k+1) t l=some nx by rw [propV_succ,HI.out.2.1];exact hS)
      have HLn:=hide (show (∀ b∈nx,BOk b)∧nx.length≤512 from ⟨hbk,by rw [hmap,List.length_map];exact HI.out.2.2.2⟩)
      clear hS hmap hbk
      go_wp2_with fail
      go_at_call 85
      refine HA.out.mono ?_
      rintro _ _ ⟨ax,nn,cx,px,rfl,hbx,rfl⟩
      have HBX:=hide (show Boxes (fun b=>w.heap.size≤b) (ext wr px) (.slice ax nn cx) nx from boxes_of ((of_boxes hbx).mono (fun b _ hb=>by have:=HI.out.1.1.below.size;omega)))
      clear hbx HA
      go_wp2_with fail
      go_roundw
      case rel=>exact ⟨k+1,ax,nn,cx,nx,by omega,by go_num,rfl,hide ⟨⟨(Up.viz HI.out.1.1),(Box.viz HI.out.1.2.1),(Box.viz HI.out.1.2.2.1),HBX.out⟩,HF.out,HLn.out⟩⟩
      case measure=>simp [intOf];omega
  · have hkb:decide ((k:Int)<mm)=false:=by simp;omega
    have hkn:decide (k<mm)=false:=by simp;omega
    have HF:=hide (show propV bs d mm t l=some cur by rw [show mm=k by omega];exact HI.out.2.1)
    obtain ⟨rfl,rfl⟩:cur=RL∧0=RE:=by have:=HR.out;rw [HF.out] at this;cases this;exact ⟨rfl,rfl⟩
    go_wp2
    exact bodyPost_ret (v:=.tuple #[.slice a' n' c',.int .i64 0]) (by simp [results,Tryz.results43,go_sem]) rfl (GivesList.fin HI.out.1.1 HI.out.1.2.2.2)
attribute [local go_sem] Oper.semAt_some
def mark (D:Nat):Deferred:={ target:=.collected D,args:=#[] }
end Go.Proofs.YteafglginnonnaaGreat
/- What surely stays clear of the origin. -/
namespace Go.Proofs.YteafglginnonnaaGreat
open Go.RowKit Go.Shelf
attribute [local go_sem] Oper.semAt_some
end Go.Proofs.YteafglginnonnaaGreat
/- Plain facts about what comes within r of the origin; least numbers. No program. -/
namespace Go.Proofs.YteafglginnonnaaGreat
open Go.RowKit
theorem least (F:Int→Bool) (n:Nat):∃ k:Nat,k≤n∧(∀ x:Nat,x<k→F x=false)∧(k<n→F k=true):=by
 induction n with
 | zero=>exact ⟨0,by omega,by omega,by omega⟩
 | succ n ih =>
  obtain ⟨k,h1,h2,h3⟩:=ih
  by_cases hk:k<n
  · exact ⟨k,by omega,h2,fun _=>h3 hk⟩
  · have hkn:k=n:=by omega
    subst hkn
    by_cases hF:F (k:Int)=true
    · exact ⟨k,by omega,h2,fun _=>hF⟩
    · refine ⟨k+1,by omega,fun x hx=>?_,by omega⟩
      by_cases hxk:x=k
      · subst hxk;exact Bool.eq_false_iff.2 hF
      · exact h2 x (by omega)
theorem rbetween_any (n lo hi:Int) (w:World):Gives Tryz.prog 237 #[.int .i64 n,.int .i64 lo,.int .i64 hi] w (.bool (withinB n lo hi)):=by
 (unfold Gives;go_enter Tryz.func237,Tryz.ntmps237)
 go_wp2
 all_goals go_ret
 all_goals refine ⟨ret_bool ?_,Up.refl _⟩
 all_goals (simp [withinB];omega)
theorem rfar_any (n:Int) (w:World):Gives Tryz.prog 221 #[.int .i64 n] w (.bool (farB n)):=by
 (unfold Gives;go_enter Tryz.func221,Tryz.ntmps221)
 go_wp2_with (go_at_call 237;refine (rbetween_any _ _ _ _).mono ?_;intro _)
 go_ret
 exact ⟨rfl,Up.go⟩
theorem rsize_any (n:Int) (h0:-9223372036854775808≤n) (h1:n≤9223372036854775807) (w:World):Gives Tryz.prog 255 #[.int .i64 n] w (.int .u64 (n.natAbs:Int)):=by
 (unfold Gives;go_enter Tryz.func255,Tryz.ntmps255)
 go_wp2
 all_goals (go_ret;refine ⟨ret_int ?_,Up.go⟩)
 · rw [IntKind.wrap_u64,IntKind.wrap_u64];omega
 · omega
def negW (a b:Int):Bool:=decide (a*b<0)
theorem neg_split (a b:Int):decide (a*b<0)=((decide (a<0) != decide (b<0))&&(decide (0<(a.natAbs:Int)*b.natAbs / 18446744073709551616) || decide (0<(a.natAbs:Int)*b.natAbs % 18446744073709551616))):=by
 have hpos:(0<(a.natAbs:Int)*b.natAbs / 18446744073709551616∨0<(a.natAbs:Int)*b.natAbs % 18446744073709551616)↔0<(a.natAbs:Int)*b.natAbs:=by
  have:0≤(a.natAbs:Int)*b.natAbs:=Int.mul_nonneg (by omega) (by omega)
  omega
 rw [← Bool.decide_or,show decide (0<(a.natAbs:Int)*b.natAbs / 18446744073709551616∨0<(a.natAbs:Int)*b.natAbs % 18446744073709551616)=decide (0<(a.natAbs:Int)*b.natAbs) from decide_eq_decide.2 hpos]
 have habs:(a.natAbs:Int)*b.natAbs=((a*b).natAbs:Int):=by rw [Int.natAbs_mul];exact (Int.natCast_mul _ _).symm
 simp only [habs]
 clear hpos habs
 by_cases ha:a<0
 · by_cases hb:b<0
   · have:=Int.mul_pos_of_neg_of_neg ha hb
     simp [ha,hb];omega
   · rcases Int.lt_or_eq_of_le (show 0≤b by omega) with h | h
     · have:=Int.mul_neg_of_neg_of_pos ha h
       simp [ha,hb,this];omega
     · subst h;simp
 · by_cases hb:b<0
   · rcases Int.lt_or_eq_of_le (show 0≤a by omega) with h | h
     · have:=Int.mul_neg_of_pos_of_neg h hb
       simp [ha,hb,this];omega
     · subst h;simp
   · have:=Int.mul_nonneg (show 0≤a by omega) (show 0≤b by omega)
     simp [ha,hb];omega
theorem rwide_any (a b:Int) (ha0:-9223372036854775808≤a) (ha1:a≤9223372036854775807) (hb0:-9223372036854775808≤b) (hb1:b≤9223372036854775807) (w:World) :
 Gives Tryz.prog 243 #[.int .i64 a,.int .i64 b] w
  (.agg #[.bool (negW a b),.int .u64 ((a.natAbs:Int)*b.natAbs / 18446744073709551616),.int .u64 ((a.natAbs:Int)*b.natAbs % 18446744073709551616)]):=by
 unfold negW
 rw [neg_split]
 (unfold Gives;go_enter Tryz.func243,Tryz.ntmps243)
 go_wp2_with (first|(go_at_call 255;refine (rsize_any _ (by omega) (by omega) _).mono ?_;intro _)|(go_at_call 254;refine (mul64_any _ _ (by omega) (by omega) (by omega) (by omega) _).mono ?_;intro _))
 all_goals (refine bodyPost_give Up.go rfl ⟨_,(by simp [results,Tryz.results243,go_sem];rfl),?_⟩)
 all_goals (by_cases ha:a<0 <;> by_cases hb:b<0 <;> first | (simp_all;done) | (simp_all;omega))
theorem rfits_any (n:Int) (w:World):Gives Tryz.prog 242 #[.int .i64 n] w (.bool (fitsB n)):=by
 (unfold Gives;go_enter Tryz.func242,Tryz.ntmps242)
 go_wp2_with (go_at_call 237;refine (rbetween_any _ _ _ _).mono ?_;intro _)
 go_ret
 exact ⟨rfl,_,rfl⟩
theorem rcheck_any (lo hi:Int) (w:World):Gives Tryz.prog 236 #[.agg #[.int .i64 lo,.int .i64 hi]] w (.int .i64 (checkE lo hi)):=by
 (unfold Gives;go_enter Tryz.func236,Tryz.ntmps236)
 go_wp2_with (go_at_call 242;refine (rfits_any _ _).mono ?_;intro _)
 all_goals (go_ret;refine ⟨ret_int ?_,Up.go⟩)
 all_goals (go_light;first|(simp_all [checkE];done)|(simp_all [checkE];omega)|(simp_all [checkE];repeat' split;all_goals (first|(simp_all;done)|omega|(simp_all;omega))))
theorem rboth_any (a b c d:Int) (w:World):Gives Tryz.prog 220 #[.agg #[.int .i64 a,.int .i64 b],.agg #[.int .i64 c,.int .i64 d]] w (.int .i64 (validE a b c d)):=by
 (unfold Gives;go_enter Tryz.func220,Tryz.ntmps220)
 go_wp2_with (go_at_call 236;refine (rcheck_any _ _ _).mono ?_;intro _)
 all_goals (go_ret;refine ⟨ret_int ?_,Up.go⟩)
 all_goals (go_light;first|(simp_all [validE];done)|(simp_all [validE];omega)|(simp_all [validE];repeat' split;all_goals (first|(simp_all;done)|omega|(simp_all;omega))))
theorem rcheckarea_any (a b c d:Int) (w:World):Gives Tryz.prog 202 #[.agg #[.int .i64 a,.int .i64 b,.int .i64 c,.int .i64 d]] w (.int .i64 (areaE a b c d)):=by
 (unfold Gives;go_enter Tryz.func202,Tryz.ntmps202)
 go_wp2_with (first|(go_at_call 220;refine (rboth_any _ _ _ _ _).mono ?_;intro _)|(go_at_call 221;refine (rfar_any _ _).mono ?_;intro _))
 all_goals (go_ret;refine ⟨ret_int ?_,Up.go⟩)
 all_goals (go_light;first|(simp_all [areaE,farA];done)|(simp_all [areaE,farA];omega)|(simp_all [areaE,farA];repeat' split;all_goals (first|(simp_all;done)|omega|(simp_all;omega))))
theorem rresult_any (lo hi:Int) (w:World):Gives Tryz.prog 228 #[.int .i64 lo,.int .i64 hi] w (.tuple #[.agg #[.int .i64 (endsS lo hi).1,.int .i64 (endsS lo hi).2.1],.int .i64 (endsS lo hi).2.2]):=by
 (unfold Gives;go_enter Tryz.func228,Tryz.ntmps228)
 go_wp2_with (go_at_call 242;refine (rfits_any _ _).mono ?_;intro _)
 all_goals (refine bodyPost_give Up.go rfl ⟨_,(by simp [results,Tryz.results228,go_sem];rfl),?_⟩)
 all_goals (go_light;first|(simp_all [endsS];done)|(simp_all [endsS];omega)|(simp_all [endsS];repeat' split;all_goals (first|(simp_all;done)|omega|(simp_all;omega))))
theorem radd_any (a b c d:Int) (w:World):Gives Tryz.prog 211 #[.agg #[.int .i64 a,.int .i64 b],.agg #[.int .i64 c,.int .i64 d]] w
 (.tuple #[.agg #[.int .i64 (addS a b c d).1,.int .i64 (addS a b c d).2.1],.int .i64 (addS a b c d).2.2]):=by
 by_cases hv:validE a b c d=0
 · obtain ⟨h1,h2⟩:=valid_zero hv
   obtain ⟨a0,a1,a2⟩:=check_zero h1
   obtain ⟨c0,c1,c2⟩:=check_zero h2
   have hvb:(validE a b c d != 0)=false:=by simp [hv]
   rw [show addS a b c d=endsS (a+c) (b+d) by unfold addS;rw [if_pos hv]]
   clear h1 h2 hv
   (unfold Gives;go_enter Tryz.func211,Tryz.ntmps211)
   go_wp2_with (first|(go_at_call 220;refine (rboth_any _ _ _ _ _).mono ?_;intro _)|(go_at_call 228;refine (rresult_any _ _ _).mono ?_;intro _))
   all_goals (refine bodyPost_give Up.go rfl ⟨_,(by simp [results,Tryz.results211,go_sem];rfl),?_⟩)
   all_goals rfl
 · have hvb:(validE a b c d != 0)=true:=by simp [hv]
   rw [show addS a b c d=(0,0,validE a b c d) by unfold addS;rw [if_neg hv]]
   clear hv
   (unfold Gives;go_enter Tryz.func211,Tryz.ntmps211)
   go_wp2_with (go_at_call 220;refine (rboth_any _ _ _ _ _).mono ?_;intro _)
   all_goals (refine bodyPost_give Up.go rfl ⟨_,(by simp [results,Tryz.results211,go_sem];rfl),?_⟩)
   all_goals rfl
theorem rsub_any (a b c d:Int) (w:World):Gives Tryz.prog 239 #[.agg #[.int .i64 a,.int .i64 b],.agg #[.int .i64 c,.int .i64 d]] w
 (.tuple #[.agg #[.int .i64 (subS a b c d).1,.int .i64 (subS a b c d).2.1],.int .i64 (subS a b c d).2.2]):=by
 by_cases hv:validE a b c d=0
 · obtain ⟨h1,h2⟩:=valid_zero hv
   obtain ⟨a0,a1,a2⟩:=check_zero h1
   obtain ⟨c0,c1,c2⟩:=check_zero h2
   have hvb:(validE a b c d != 0)=false:=by simp [hv]
   rw [show subS a b c d=endsS (a - d) (b - c) by unfold subS;rw [if_pos hv]]
   clear h1 h2 hv
   (unfold Gives;go_enter Tryz.func239,Tryz.ntmps239)
   go_wp2_with (first|(go_at_call 220;refine (rboth_any _ _ _ _ _).mono ?_;intro _)|(go_at_call 228;refine (rresult_any _ _ _).mono ?_;intro _))
   all_goals (refine bodyPost_give Up.go rfl ⟨_,(by simp [results,Tryz.results239,go_sem];rfl),?_⟩)
   all_goals rfl
 · have hvb:(validE a b c d != 0)=true:=by simp [hv]
   rw [show subS a b c d=(0,0,validE a b c d) by unfold subS;rw [if_neg hv]]
   clear hv
   (unfold Gives;go_enter Tryz.func239,Tryz.ntmps239)
   go_wp2_with (go_at_call 220;refine (rboth_any _ _ _ _ _).mono ?_;intro _)
   all_goals (refine bodyPost_give Up.go rfl ⟨_,(by simp [results,Tryz.results239,go_sem];rfl),?_⟩)
   all_goals rfl
theorem mag_mul (a b:Int):(a.natAbs:Int)*b.natAbs=((a*b).natAbs:Int):=by rw [Int.natAbs_mul];exact (Int.natCast_mul _ _).symm
theorem rwide_sgn (a b:Int) (ha0:-9223372036854775808≤a) (ha1:a≤9223372036854775807) (hb0:-9223372036854775808≤b) (hb1:b≤9223372036854775807) (w:World) :
 Gives Tryz.prog 243 #[.int .i64 a,.int .i64 b] w
  (.agg #[.bool (decide (a*b<0)),.int .u64 (((a*b).natAbs:Int) / 18446744073709551616),.int .u64 (((a*b).natAbs:Int) % 18446744073709551616)]):=by
 rw [← mag_mul];exact rwide_any a b ha0 ha1 hb0 hb1 w
theorem divW_sgn (p c:Int) (hc:c≠0) :
 divW ((p.natAbs:Int) / 18446744073709551616) ((p.natAbs:Int) % 18446744073709551616) (decide (p<0)) c=mdE p c:=by
 rw [mdE_quoS p c hc (decide (p<0) != decide (c<0)) (.inl rfl)]
 have hmm:=Int.mul_ediv_add_emod (p.natAbs:Int) 18446744073709551616
 unfold divW
 rw [show (p.natAbs:Int) / 18446744073709551616*18446744073709551616+(p.natAbs:Int) % 18446744073709551616=p.natAbs by omega]
 split
 · rename_i h
   have h1:(c.natAbs:Int)*18446744073709551616≤p.natAbs:=by omega
   have h2:=(Int.le_ediv_iff_mul_le (show 0<(c.natAbs:Int) by omega)).2 (show 18446744073709551616*(c.natAbs:Int)≤p.natAbs by rw [Int.mul_comm];exact h1)
   unfold quoS
   rw [if_pos (by omega)]
 · rfl
set_option maxHeartbeats 1000000 in
theorem rquotient_any (h l:Int) (b:Bool) (c:Int) (h0:0≤h) (h1:h<18446744073709551616) (l0:0≤l) (l1:l<18446744073709551616)
 (c0:-9223372036854775808≤c) (c1:c≤9223372036854775807) (w:World) :
 Gives Tryz.prog 244 #[.agg #[.bool b,.int .u64 h,.int .u64 l],.int .i64 c] w
  (.tuple #[.int .i64 (divW h l b c).1,.int .i64 (divW h l b c).2.1,.bool ((divW h l b c).2.2==0)]):=by
 by_cases hd:(c.natAbs:Int)≤h
 · (unfold Gives;go_enter Tryz.func244,Tryz.ntmps244)
   go_wp2_with (go_at_call 255;refine (rsize_any _ c0 c1 _).mono ?_;intro _)
   all_goals go_ret3
   all_goals refine ⟨?_,Up.go⟩
   all_goals simp [divW,hd]
 · have hd':h<(c.natAbs:Int):=by omega
   clear hd
   obtain ⟨q,hq⟩:∃ q,(h*18446744073709551616+l) / c.natAbs=q:=⟨_,rfl⟩
   obtain ⟨r,hr⟩:∃ q,(h*18446744073709551616+l) % c.natAbs=q:=⟨_,rfl⟩
   have hq0:0≤q:=by rw [← hq];exact Int.ediv_nonneg (by omega) (by omega)
   have hr0:0≤r:=by rw [← hr];exact Int.emod_nonneg _ (by omega)
   have hq1:q<18446744073709551616:=by
    rw [← hq]
    apply Int.ediv_lt_of_lt_mul (by omega)
    have:(h+1)*18446744073709551616≤(c.natAbs:Int)*18446744073709551616:=Int.mul_le_mul_of_nonneg_right (by omega) (by omega)
    grind
   have hdiv:=fun W=>div64_any h l c.natAbs h0 hd' l0 l1 (by omega) W
   rw [hq,hr] at hdiv
   have hE:divW h l b c=quoS q (q+if r=0 then 0 else 1) (b != decide (c<0)):=by simp only [divW];rw [if_neg (by omega),hq,hr]
   rw [hE]
   clear hE hq hr
   have HD:=hide hdiv
   clear hdiv
   (unfold Gives;go_enter Tryz.func244,Tryz.ntmps244)
   go_wp2_with (first|(go_at_call 255;refine (rsize_any _ c0 c1 _).mono ?_;intro _)|(go_at_call 256;refine (HD.out _).mono ?_;intro _))
   all_goals go_ret3
   all_goals refine ⟨?_,Up.go⟩
   all_goals (go_light;first|(simp_all [quoS];done)|(simp_all [quoS];omega)|(simp_all [quoS];repeat' split;all_goals (first|(simp_all;done)|omega|(simp_all;omega))))
theorem rquotient_md (p c:Int) (hc:c≠0) (c0:-9223372036854775808≤c) (c1:c≤9223372036854775807) (p0:-85070591730234615865843651857942052864≤p) (p1:p≤85070591730234615865843651857942052864) (w:World) :
 Gives Tryz.prog 244 #[.agg #[.bool (decide (p<0)),.int .u64 ((p.natAbs:Int) / 18446744073709551616),.int .u64 ((p.natAbs:Int) % 18446744073709551616)],.int .i64 c] w
  (.tuple #[.int .i64 (mdE p c).1,.int .i64 (mdE p c).2.1,.bool ((mdE p c).2.2==0)]):=by
 rw [← divW_sgn p c hc]
 exact rquotient_any _ _ _ c (by omega) (by omega) (by omega) (by omega) c0 c1 w
theorem mdE_err (p c:Int):(mdE p c).2.2=0∨(mdE p c=(0,0,14)):=by
 unfold mdE;split
 · exact .inl rfl
 · exact .inr rfl
theorem prod_bd {a b:Int} (a0:-9223372036854775808≤a) (a1:a≤9223372036854775807) (b0:-9223372036854775808≤b) (b1:b≤9223372036854775807) :
 -85070591730234615865843651857942052864≤a*b∧a*b≤85070591730234615865843651857942052864:=by
 have:=mul_bd (x:=a) (y:=b) (B:=9223372036854775808) (C:=9223372036854775808) (by omega) (by omega) (by omega) (by omega)
 omega
theorem rmuldiv_any (a b c:Int) (w:World):Gives Tryz.prog 227 #[.int .i64 a,.int .i64 b,.int .i64 c] w
 (.tuple #[.int .i64 (mulDivE a b c).1,.int .i64 (mulDivE a b c).2.1,.int .i64 (mulDivE a b c).2.2]):=by
 by_cases h:fitsB a=true∧fitsB b=true∧fitsB c=true∧¬ c=0
 · obtain ⟨h1,h2,h3,h4⟩:=h
   obtain ⟨a0,a1⟩:=(fits_iff a).1 h1
   obtain ⟨b0,b1⟩:=(fits_iff b).1 h2
   obtain ⟨c0,c1⟩:=(fits_iff c).1 h3
   have hcb:(c==0)=false:=by simp [h4]
   have hp:=prod_bd (a:=a) (b:=b) (by omega) (by omega) (by omega) (by omega)
   have HE:mulDivE a b c=mdE (a*b) c:=by unfold mulDivE;rw [if_pos ⟨h1,h2,h3,h4⟩]
   rw [HE]
   clear HE
   have HP:=fun W=>rquotient_md (a*b) c h4 (by omega) (by omega) (by omega) (by omega) W
   have HR:=fun W=>rwide_sgn a b (by omega) (by omega) (by omega) (by omega) W
   have he:=mdE_err (a*b) c
   clear hp
   generalize mdE (a*b) c=m at *
   generalize a*b=p at *
   obtain ⟨lo,hi,e⟩:=m
   simp only at HP he
   simp only [Prod.mk.injEq] at he
   have H1:=hide HP
   have H2:=hide HR
   clear HP HR
   simp only
   rcases he with rfl | ⟨rfl,rfl,rfl⟩
   all_goals (unfold Gives;go_enter Tryz.func227,Tryz.ntmps227)
   all_goals go_wp2_with (first|(go_at_call 242;(with_reducible refine (rfits_any _ _).mono ?_);intro _)|(go_at_call 243;(with_reducible refine (H2.out _).mono ?_);intro _)|(go_at_call 244;(with_reducible refine (H1.out _).mono ?_);intro _))
   all_goals go_ret3
   all_goals exact ⟨rfl,Up.go⟩
 · have HE:mulDivE a b c=(0,0,2):=by unfold mulDivE;rw [if_neg h]
   rw [HE]
   cases ha:fitsB a with
   | false =>
    (unfold Gives;go_enter Tryz.func227,Tryz.ntmps227)
    go_wp2_with (go_at_call 242;refine (rfits_any _ _).mono ?_;intro _)
    go_ret3
    exact ⟨rfl,Up.go⟩
   | true =>
    cases hb:fitsB b with
    | false =>
     (unfold Gives;go_enter Tryz.func227,Tryz.ntmps227)
     go_wp2_with (go_at_call 242;refine (rfits_any _ _).mono ?_;intro _)
     go_ret3
     exact ⟨rfl,Up.go⟩
    | true =>
     cases hc:fitsB c with
     | false =>
      (unfold Gives;go_enter Tryz.func227,Tryz.ntmps227)
      go_wp2_with (go_at_call 242;refine (rfits_any _ _).mono ?_;intro _)
      go_ret3
      exact ⟨rfl,Up.go⟩
     | true =>
      obtain rfl:c=0:=by
       by_cases h0:c=0
       · exact h0
       · exact absurd ⟨ha,hb,hc,h0⟩ h
      clear h HE
      (unfold Gives;go_enter Tryz.func227,Tryz.ntmps227)
      go_wp2_with (go_at_call 242;refine (rfits_any _ _).mono ?_;intro _)
      go_ret3
      exact ⟨rfl,Up.go⟩
def opR (o:Bool):OpE:=fun x y=>if o=true then mdE x y else mdE (x*y) 1
theorem opR_err (o:Bool) (x y:Int):(opR o x y).2.2=0∨opR o x y=(0,0,14):=by
 unfold opR;split <;> exact mdE_err _ _
theorem mdE_bdR (p c:Int) (h:(mdE p c).2.2=0):-1152921504606846976≤(mdE p c).1∧(mdE p c).1≤1152921504606846976 ∧ -1152921504606846976≤(mdE p c).2.1∧(mdE p c).2.1≤1152921504606846976:=by
 unfold mdE at h ⊢;split
 · assumption
 · rename_i h1;rw [if_neg h1] at h;simp at h
theorem opR_bd (o:Bool) (x y:Int) (h:(opR o x y).2.2=0):-1152921504606846976≤(opR o x y).1∧(opR o x y).1≤1152921504606846976 ∧ -1152921504606846976≤(opR o x y).2.1∧(opR o x y).2.1≤1152921504606846976:=by
 unfold opR at h ⊢;split
 · rename_i h1;rw [if_pos h1] at h;exact mdE_bdR _ _ h
 · rename_i h1;rw [if_neg h1] at h;exact mdE_bdR _ _ h
def corR (o:Bool) (a b c d:Int):Int×Int×Int :=
 if err (opR o) (four a b c d)=0 then ((acc (opR o) (four a b c d)).1,(acc (opR o) (four a b c d)).2,0) else (0,0,14)
structure Cor (op:OpE) (a b c d:Int) (n:Nat) (f:Bool) (x y:Int):Prop where
 first:f=decide (n=0)
 none:err op ((four a b c d).take n)=0
 out:n=0∨(x,y)=acc op ((four a b c d).take n)
theorem Cor.start (op:OpE) (a b c d x y:Int):Cor op a b c d 0 true x y:=⟨rfl,rfl,.inl rfl⟩
theorem Cor.step {o:Bool} {a b c d:Int} {k j:Nat} {f:Bool} {x y:Int} (h:Cor (opR o) a b c d (2*k+j) f x y) (hk:k<2) (hj:j<2) (he:(opR o (at2 a b k) (at2 c d j)).2.2=0) {x' y':Int}
 (hx:x'=if f=true∨(opR o (at2 a b k) (at2 c d j)).1<x then (opR o (at2 a b k) (at2 c d j)).1 else x) (hy:y'=if f=true∨y<(opR o (at2 a b k) (at2 c d j)).2.1 then (opR o (at2 a b k) (at2 c d j)).2.1 else y) :
 Cor (opR o) a b c d (2*k+(j+1)) false x' y':=by
 have hb:=opR_bd o _ _ he
 refine ⟨by simp,?_,.inr ?_⟩
 · rw [← four_step a b c d k j hk hj,err_zero _ _ _ h.none];exact he
 · rw [← four_step a b c d k j hk hj,acc_snoc]
   rcases h.out with h0 | h0
   · have hf:f=true:=by rw [h.first,h0];rfl
     rw [h0,hx,hy,hf]
     simp only [List.take_zero,acc,List.foldl_nil,true_or,if_true]
     rw [show min 1152921504606846976 (opR o (at2 a b k) (at2 c d j)).1=(opR o (at2 a b k) (at2 c d j)).1 by omega,show max (-1152921504606846976) (opR o (at2 a b k) (at2 c d j)).2.1=(opR o (at2 a b k) (at2 c d j)).2.1 by omega]
   · rw [← h0,hx,hy]
     rcases Nat.eq_zero_or_pos (2*k+j) with hz | hz
     · have hf:f=true:=by rw [h.first,hz];rfl
       rw [hz] at h0
       simp only [List.take_zero,acc,List.foldl_nil,Prod.mk.injEq] at h0
       rw [hf];simp only [true_or,if_true]
       congr 1 <;> omega
     · have hf:f=false:=by rw [h.first];simp;omega
       rw [hf]
       simp only [Bool.false_eq_true,false_or]
       congr 1 <;> (split <;> omega)
theorem Cor.fails {o:Bool} {a b c d:Int} {k j:Nat} {f:Bool} {x y:Int} (h:Cor (opR o) a b c d (2*k+j) f x y) (hk:k<2) (hj:j<2) (he:¬ (opR o (at2 a b k) (at2 c d j)).2.2=0):corR o a b c d=(0,0,14):=by
 have h1:err (opR o) ((four a b c d).take (2*k+(j+1)))≠0:=by rw [← four_step a b c d k j hk hj,err_zero _ _ _ h.none];exact he
 have h2:err (opR o) (four a b c d)≠0:=by
  have:=err_pre (opR o) _ ((four a b c d).drop (2*k+(j+1))) h1
  rw [List.take_append_drop] at this;rw [this];exact h1
 unfold corR;rw [if_neg h2]
theorem Cor.done {o:Bool} {a b c d:Int} {f:Bool} {x y:Int} (h:Cor (opR o) a b c d 4 f x y):corR o a b c d=(x,y,0):=by
 have h1:=h.none
 have h2:=h.out.resolve_left (by omega)
 rw [show (four a b c d).take 4=four a b c d from rfl] at h1 h2
 unfold corR;rw [if_pos h1,← h2]
theorem at2_bd {a b L U:Int} (k:Nat) (a0:L≤a) (a1:a≤U) (b0:L≤b) (b1:b≤U):L≤at2 a b k∧at2 a b k≤U:=by unfold at2;split <;> omega
theorem at2_cell (a b:Int) (k:Nat) (hk:k<2):(#[.int .i64 a,.int .i64 b]:Array Value)[k]?=some (.int .i64 (at2 a b k)):=by
 have:k=0∨k=1:=by omega
 rcases this with rfl | rfl <;> rfl
theorem rwide_one (a:Int) (ha0:-9223372036854775808≤a) (ha1:a≤9223372036854775807) (w:World) :
 Gives Tryz.prog 243 #[.int .i64 a,.int .i64 1] w
  (.agg #[.bool (decide (a<0)),.int .u64 ((a.natAbs:Int) / 18446744073709551616),.int .u64 ((a.natAbs:Int) % 18446744073709551616)]):=by
 have h:=rwide_sgn a 1 ha0 ha1 (by omega) (by omega) w
 rw [Int.mul_one] at h
 exact h
structure CorBox (w wr:World) (a b c d x y:Int):Prop where
 up:Up w wr
 b0:Box wr w.heap.size #[.int .i64 a,.int .i64 b] 31
 b1:Box wr (w.heap.size+1) #[.int .i64 c,.int .i64 d] 31
 b2:Box wr (w.heap.size+1+1) #[.int .i64 0,.int .i64 0] 31
 b3:Box wr (w.heap.size+1+1+1) #[.int .i64 x,.int .i64 y] 31
 b4:Box wr (w.heap.size+1+1+1+1) #[.int .i64 a,.int .i64 b] 2
theorem CorBox.ups {w wr wr':World} {a b c d x y:Int} (h:CorBox w wr a b c d x y) (u:Up wr wr'):CorBox w wr' a b c d x y :=
 ⟨h.up.trans u,h.b0.up u,h.b1.up u,h.b2.up u,h.b3.up u,h.b4.up u⟩
theorem CorBox.ext' {w wr:World} {a b c d x y:Int} (h:CorBox w wr a b c d x y) (p:Ext):CorBox w (ext wr p) a b c d x y:=h.ups ((Up.refl _).ext p)
theorem CorBox.alloc' {w wr:World} {a b c d x y:Int} (h:CorBox w wr a b c d x y) (o:Obj):CorBox w (wr.alloc o) a b c d x y:=h.ups ((Up.refl _).alloc o)
theorem CorBox.set0 {w wr:World} {a b c d x y:Int} (h:CorBox w wr a b c d x y) (v:Int):CorBox w (wr.setCell ⟨w.heap.size+1+1+1,0,none⟩ (.int .i64 v)) a b c d v y :=
 ⟨h.up.setCell (by simp;omega) _,h.b0.other (by omega) _ _,h.b1.other (by omega) _ _,h.b2.other (by omega) _ _,h.b3.set 0 _,h.b4.other (by omega) _ _⟩
theorem CorBox.set1 {w wr:World} {a b c d x y:Int} (h:CorBox w wr a b c d x y) (v:Int):CorBox w (wr.setCell ⟨w.heap.size+1+1+1,1,none⟩ (.int .i64 v)) a b c d x v :=
 ⟨h.up.setCell (by simp;omega) _,h.b0.other (by omega) _ _,h.b1.other (by omega) _ _,h.b2.other (by omega) _ _,h.b3.set 1 _,h.b4.other (by omega) _ _⟩
theorem CorBox.far {w wr:World} {a b c d x y:Int} (h:CorBox w wr a b c d x y) {B:Nat} (hB:w.heap.size+1+1+1+1<B) (i:Nat) (v:Value):CorBox w (wr.setCell ⟨B,i,none⟩ v) a b c d x y :=
 ⟨h.up.setCell (by simp;omega) _,h.b0.other (by omega) _ _,h.b1.other (by omega) _ _,h.b2.other (by omega) _ _,h.b3.other (by omega) _ _,h.b4.other (by omega) _ _⟩
theorem Box.pair0 {w:World} {b:Nat} {x y:Value} {t:TypeId} (h:Box w b #[x,y] t) (v:Value):Box (w.setCell ⟨b,0,none⟩ v) b #[v,y] t:=h.set 0 v
theorem Box.pair1 {w:World} {b:Nat} {x y:Value} {t:TypeId} (h:Box w b #[x,y] t) (v:Value):Box (w.setCell ⟨b,1,none⟩ v) b #[x,v] t:=h.set 1 v
theorem rcorners_read {W:World} {B:Nat} {v0 v1 e:Value} {t:TypeId} {tmps:Array Value} (h6:tmps.getD 6 undef=.pointer (some ⟨B,0,none⟩)) (h7:tmps.getD 7 undef=e) (hB:Box W B #[v0,v1] t) :
 (results Tryz.f241 tmps).run Tryz.prog W=.ok (.tuple #[.agg #[v0,v1],e]) W:=by
 obtain ⟨c0,c1⟩:=hB.c2
 rw [Array.getD_eq_getD_getElem?] at h6 h7
 simp [results,Tryz.results241,go_sem,h6,h7,c0,c1]
set_option maxRecDepth 100000 in
set_option maxHeartbeats 4000000 in
theorem rcorners_any (o:Bool) (a b c d:Int) (a0:-1152921504606846976≤a) (a1:a≤1152921504606846976) (b0:-1152921504606846976≤b) (b1:b≤1152921504606846976)
 (c0:-1152921504606846976≤c) (c1:c≤1152921504606846976) (d0:-1152921504606846976≤d) (d1:d≤1152921504606846976) (hz:o=true→c≠0∧d≠0) (w:World) :
 Gives Tryz.prog 241 #[.agg #[.int .i64 a,.int .i64 b],.agg #[.int .i64 c,.int .i64 d],.bool o] w
  (.tuple #[.agg #[.int .i64 (corR o a b c d).1,.int .i64 (corR o a b c d).2.1],.int .i64 (corR o a b c d).2.2]):=by
 obtain ⟨R,hR⟩:∃ R,corR o a b c d=R:=⟨_,rfl⟩
 rw [hR]
 have HR:=hide hR
 have HZ:=hide hz
 clear hR hz
 (unfold Gives;go_enter Tryz.func241,Tryz.ntmps241)
 go_wp2
 go_loopw [9,25] (fun s9 s25 wr=>∃ (k:Nat) (f:Bool) (x y:Int),k≤2∧s9=.bool f∧s25=.int .i64 k∧Hid (Cor (opR o) a b c d (2*k) f x y)∧Hid (CorBox w wr a b c d x y)) (fun _ s25 _=>2 - (intOf s25).toNat)
 case atStart =>
  refine ⟨0,true,0,0,by omega,rfl,rfl,hide (Cor.start _ _ _ _ _ _ _),hide ⟨Up.go,?_,?_,?_,?_,Box.mk (by simp)⟩⟩
  · exact (((((Box.mk rfl).alloc _).alloc _).alloc _).alloc _)
  · exact ((((Box.mk (by simp)).alloc _).alloc _).alloc _)
  · exact (((Box.mk (by simp)).alloc _).alloc _)
  · exact ((Box.mk (by simp)).alloc _)
 case round =>
  obtain ⟨k,f,x,y,hk,rfl,rfl,hC,hB⟩:=hrel
  by_cases hlt:k<2
  · have hkb:decide ((k:Int)<2)=true:=by simp;omega
    have q1:=hB.out.b4.cell k (at2_cell a b k hlt)
    obtain ⟨q2,q3⟩:=hB.out.b1.c2
    have sz:=hB.out.b4.lt
    obtain ⟨X,hX⟩:∃ X,at2 a b k=X:=⟨_,rfl⟩
    obtain ⟨x0,x1⟩:-1152921504606846976≤X∧X≤1152921504606846976:=by rw [← hX];exact at2_bd k a0 a1 b0 b1
    rw [hX] at q1
    have HX:=hide hX
    clear hX
    go_wp2
    have hBk:CorBox w (wr.alloc (.cells #[.int .i64 c,.int .i64 d] 2)) a b c d x y:=hB.out.ups ((Up.refl _).alloc _)
    have hSk:Box (wr.alloc (.cells #[.int .i64 c,.int .i64 d] 2)) wr.heap.size #[.int .i64 c,.int .i64 d] 2:=Box.mk rfl
    obtain ⟨S,hS⟩:∃ S,wr.heap.size=S:=⟨_,rfl⟩
    rw [hS] at hSk sz
    rw [hS]
    generalize (wr.alloc (.cells #[.int .i64 c,.int .i64 d] 2))=wk at *
    have HBk:=hide (And.intro hBk hSk)
    clear hBk hSk hS q1 q2 q3 hB
    go_loopw [9,35] (fun s9 s35 wj=>∃ (j:Nat) (f:Bool) (x y:Int),j≤2∧s9=.bool f∧s35=.int .i64 j∧Hid (Cor (opR o) a b c d (2*k+j) f x y)∧Hid (CorBox w wj a b c d x y∧Box wj S #[.int .i64 c,.int .i64 d] 2)) (fun _ s35 _=>2 - (intOf s35).toNat)
    case atStart=>exact ⟨0,f,x,y,by omega,rfl,rfl,hC,HBk⟩
    case round =>
     clear hC HBk
     obtain ⟨j,f,x,y,hj,rfl,rfl,hC,hB⟩:=hrel
     by_cases hlj:j<2
     · have hjb:decide ((j:Int)<2)=true:=by simp;omega
       have q1:=hB.out.2.cell j (at2_cell c d j hlj)
       obtain ⟨q2,q3⟩:=hB.out.1.b3.c2
       obtain ⟨q4,q5⟩:=hB.out.1.b3.f2
       obtain ⟨q6,q7⟩:=hB.out.1.b2.f2
       obtain ⟨q8,q9⟩:=hB.out.1.b2.c2
       have sz2:=hB.out.2.lt
       obtain ⟨Y,hY⟩:∃ Y,at2 c d j=Y:=⟨_,rfl⟩
       obtain ⟨y0,y1⟩:-1152921504606846976≤Y∧Y≤1152921504606846976:=by rw [← hY];exact at2_bd j c0 c1 d0 d1
       rw [hY] at q1
       have hm:opR o (at2 a b k) (at2 c d j)=opR o X Y:=by rw [HX.out,hY]
       have hnz:o=true→Y≠0:=fun ho=>by rw [← hY];unfold at2;split;exact (HZ.out ho).1;exact (HZ.out ho).2
       have hp:=prod_bd (a:=X) (b:=Y) (by omega) (by omega) (by omega) (by omega)
       have he:=opR_err o X Y
       have hst:=fun (he0:(opR o X Y).2.2=0) (x' y':Int)=>Cor.step (x':=x') (y':=y') hC.out hlt hlj (by rw [hm];exact he0)
       have hfl:=fun (he0:¬ (opR o X Y).2.2=0)=>Cor.fails hC.out hlt hlj (by rw [hm];exact he0)
       rw [hm] at hst
       rw [HR.out] at hfl
       have K1:=hide (fun W=>rwide_sgn X Y (by omega) (by omega) (by omega) (by omega) W)
       have K2:=hide (fun W=>rwide_one X (by omega) (by omega) W)
       have K3:=hide (fun (h:o=true) W=>rquotient_md X Y (hnz h) (by omega) (by omega) (by omega) (by omega) W)
       have K4:=hide (fun W=>rquotient_md (X*Y) 1 (by omega) (by omega) (by omega) hp.1 hp.2 W)
       have hR1:o=true→mdE X Y=opR o X Y:=fun h=>by unfold opR;rw [if_pos h]
       have hR2:o=false→mdE (X*Y) 1=opR o X Y:=fun h=>by unfold opR;rw [h];rfl
       clear hp hY hnz hm
       have K5:Hid (o=true→∀ W,Gives Tryz.prog 244 #[.agg #[.bool (decide (X<0)),.int .u64 ((X.natAbs:Int) / 18446744073709551616),.int .u64 ((X.natAbs:Int) % 18446744073709551616)],.int .i64 Y] W
        (.tuple #[.int .i64 (opR o X Y).1,.int .i64 (opR o X Y).2.1,.bool ((opR o X Y).2.2==0)])):=hide fun h W=>by rw [← hR1 h];exact K3.out h W
       have K6:Hid (o=false→∀ W,Gives Tryz.prog 244 #[.agg #[.bool (decide (X*Y<0)),.int .u64 (((X*Y).natAbs:Int) / 18446744073709551616),.int .u64 (((X*Y).natAbs:Int) % 18446744073709551616)],.int .i64 1] W
        (.tuple #[.int .i64 (opR o X Y).1,.int .i64 (opR o X Y).2.1,.bool ((opR o X Y).2.2==0)])):=hide fun h W=>by rw [← hR2 h];exact K4.out W
       have hst':=hide hst
       have hfl':=hide hfl
       clear hR1 hR2 K3 K4 hst hfl
       generalize opR o X Y=m at *
       generalize X*Y=p at *
       obtain ⟨lo,hi,e⟩:=m
       simp only at K5 K6 hst' hfl' he
       have HB:=hide hB.out
       clear hB
       rcases he with rfl | he
       · have hst2:=hide (hst'.out rfl)
         clear hst' hfl'
         cases o
         · have K7:=hide (K6.out rfl)
           clear K5 K6 K2
           cases f
           all_goals go_wp2_with (first|(go_at_call 243;(with_reducible refine (K1.out _).mono ?_);intro _)|(go_at_call 243;(with_reducible refine (K2.out _).mono ?_);intro _)|(go_at_call 244;(with_reducible refine (K7.out _).mono ?_);intro _))
           all_goals (first|(refine ⟨⟨j+1,false,lo,hi,by omega,rfl,by go_num,hide (hst2.out _ _ ?_ ?_),hide ⟨?_,?_⟩⟩,by simp [intOf];omega⟩;(split <;> first|rfl|(simp_all;done)|(simp_all;omega));(split <;> first|rfl|(simp_all;done)|(simp_all;omega));(repeat (first|exact HB.out.1|apply CorBox.set1|apply CorBox.set0|apply CorBox.ext'|apply CorBox.alloc'|(refine CorBox.far ?_ (by omega) _ _)));(repeat (first|exact HB.out.2|apply Box.ext|apply Box.alloc|(refine Box.other ?_ (by omega) _ _)));done)|(refine ⟨⟨j+1,false,lo,y,by omega,rfl,by go_num,hide (hst2.out _ _ ?_ ?_),hide ⟨?_,?_⟩⟩,by simp [intOf];omega⟩;(split <;> first|rfl|(simp_all;done)|(simp_all;omega));(split <;> first|rfl|(simp_all;done)|(simp_all;omega));(repeat (first|exact HB.out.1|apply CorBox.set1|apply CorBox.set0|apply CorBox.ext'|apply CorBox.alloc'|(refine CorBox.far ?_ (by omega) _ _)));(repeat (first|exact HB.out.2|apply Box.ext|apply Box.alloc|(refine Box.other ?_ (by omega) _ _)));done)|(refine ⟨⟨j+1,false,x,hi,by omega,rfl,by go_num,hide (hst2.out _ _ ?_ ?_),hide ⟨?_,?_⟩⟩,by simp [intOf];omega⟩;(split <;> first|rfl|(simp_all;done)|(simp_all;omega));(split <;> first|rfl|(simp_all;done)|(simp_all;omega));(repeat (first|exact HB.out.1|apply CorBox.set1|apply CorBox.set0|apply CorBox.ext'|apply CorBox.alloc'|(refine CorBox.far ?_ (by omega) _ _)));(repeat (first|exact HB.out.2|apply Box.ext|apply Box.alloc|(refine Box.other ?_ (by omega) _ _)));done)|(refine ⟨⟨j+1,false,x,y,by omega,rfl,by go_num,hide (hst2.out _ _ ?_ ?_),hide ⟨?_,?_⟩⟩,by simp [intOf];omega⟩;(split <;> first|rfl|(simp_all;done)|(simp_all;omega));(split <;> first|rfl|(simp_all;done)|(simp_all;omega));(repeat (first|exact HB.out.1|apply CorBox.set1|apply CorBox.set0|apply CorBox.ext'|apply CorBox.alloc'|(refine CorBox.far ?_ (by omega) _ _)));(repeat (first|exact HB.out.2|apply Box.ext|apply Box.alloc|(refine Box.other ?_ (by omega) _ _)));done))
         · have K7:=hide (K5.out rfl)
           clear K5 K6
           cases f
           all_goals go_wp2_with (first|(go_at_call 243;(with_reducible refine (K1.out _).mono ?_);intro _)|(go_at_call 243;(with_reducible refine (K2.out _).mono ?_);intro _)|(go_at_call 244;(with_reducible refine (K7.out _).mono ?_);intro _))
           all_goals (first|(refine ⟨⟨j+1,false,lo,hi,by omega,rfl,by go_num,hide (hst2.out _ _ ?_ ?_),hide ⟨?_,?_⟩⟩,by simp [intOf];omega⟩;(split <;> first|rfl|(simp_all;done)|(simp_all;omega));(split <;> first|rfl|(simp_all;done)|(simp_all;omega));(repeat (first|exact HB.out.1|apply CorBox.set1|apply CorBox.set0|apply CorBox.ext'|apply CorBox.alloc'|(refine CorBox.far ?_ (by omega) _ _)));(repeat (first|exact HB.out.2|apply Box.ext|apply Box.alloc|(refine Box.other ?_ (by omega) _ _)));done)|(refine ⟨⟨j+1,false,lo,y,by omega,rfl,by go_num,hide (hst2.out _ _ ?_ ?_),hide ⟨?_,?_⟩⟩,by simp [intOf];omega⟩;(split <;> first|rfl|(simp_all;done)|(simp_all;omega));(split <;> first|rfl|(simp_all;done)|(simp_all;omega));(repeat (first|exact HB.out.1|apply CorBox.set1|apply CorBox.set0|apply CorBox.ext'|apply CorBox.alloc'|(refine CorBox.far ?_ (by omega) _ _)));(repeat (first|exact HB.out.2|apply Box.ext|apply Box.alloc|(refine Box.other ?_ (by omega) _ _)));done)|(refine ⟨⟨j+1,false,x,hi,by omega,rfl,by go_num,hide (hst2.out _ _ ?_ ?_),hide ⟨?_,?_⟩⟩,by simp [intOf];omega⟩;(split <;> first|rfl|(simp_all;done)|(simp_all;omega));(split <;> first|rfl|(simp_all;done)|(simp_all;omega));(repeat (first|exact HB.out.1|apply CorBox.set1|apply CorBox.set0|apply CorBox.ext'|apply CorBox.alloc'|(refine CorBox.far ?_ (by omega) _ _)));(repeat (first|exact HB.out.2|apply Box.ext|apply Box.alloc|(refine Box.other ?_ (by omega) _ _)));done)|(refine ⟨⟨j+1,false,x,y,by omega,rfl,by go_num,hide (hst2.out _ _ ?_ ?_),hide ⟨?_,?_⟩⟩,by simp [intOf];omega⟩;(split <;> first|rfl|(simp_all;done)|(simp_all;omega));(split <;> first|rfl|(simp_all;done)|(simp_all;omega));(repeat (first|exact HB.out.1|apply CorBox.set1|apply CorBox.set0|apply CorBox.ext'|apply CorBox.alloc'|(refine CorBox.far ?_ (by omega) _ _)));(repeat (first|exact HB.out.2|apply Box.ext|apply Box.alloc|(refine Box.other ?_ (by omega) _ _)));done))
       · simp only [Prod.mk.injEq] at he
         obtain ⟨rfl,rfl,rfl⟩:=he
         obtain rfl:=hfl'.out (by omega)
         cases o
         · have K7:=hide (K6.out rfl)
           clear K5 K6 K2
           go_wp2_with (first|(go_at_call 243;(with_reducible refine (K1.out _).mono ?_);intro _)|(go_at_call 243;(with_reducible refine (K2.out _).mono ?_);intro _)|(go_at_call 244;(with_reducible refine (K7.out _).mono ?_);intro _))
           refine bodyPost_give (by repeat (first|exact HB.out.1.up|apply Up.ext|apply Up.alloc|(refine Up.setCell ?_ (by simp;try omega) _))) rfl ⟨_,rcorners_read rfl rfl (by repeat (first|exact HB.out.1.b2|apply Box.ext|apply Box.alloc|apply Box.pair0|apply Box.pair1|(refine Box.other ?_ (by omega) _ _))),rfl⟩
         · have K7:=hide (K5.out rfl)
           clear K5 K6
           go_wp2_with (first|(go_at_call 243;(with_reducible refine (K1.out _).mono ?_);intro _)|(go_at_call 243;(with_reducible refine (K2.out _).mono ?_);intro _)|(go_at_call 244;(with_reducible refine (K7.out _).mono ?_);intro _))
           refine bodyPost_give (by repeat (first|exact HB.out.1.up|apply Up.ext|apply Up.alloc|(refine Up.setCell ?_ (by simp;try omega) _))) rfl ⟨_,rcorners_read rfl rfl (by repeat (first|exact HB.out.1.b2|apply Box.ext|apply Box.alloc|apply Box.pair0|apply Box.pair1|(refine Box.other ?_ (by omega) _ _))),rfl⟩
     · have hjb:decide ((j:Int)<2)=false:=by simp;omega
       obtain rfl:j=2:=by omega
       go_wp2
       refine ⟨⟨k+1,f,x,y,by omega,rfl,by go_num,hide (by rw [show 2*(k+1)=2*k+2 by omega];exact hC.out),hide hB.out.1⟩,by simp [intOf];omega⟩
  · have hkb:decide ((k:Int)<2)=false:=by simp;omega
    obtain rfl:k=2:=by omega
    have HE:=hide (hC.out.done)
    obtain ⟨z0,z1⟩:=hB.out.b3.c2
    obtain ⟨y0,y1⟩:=hB.out.b2.c2
    obtain ⟨y2,y3⟩:=hB.out.b2.f2
    have y4:=hB.out.b2.lt
    go_wp2
    refine bodyPost_give (by repeat (first|exact hB.out.up|apply Up.ext|apply Up.alloc|(refine Up.setCell ?_ (by simp;try omega) _))) rfl ⟨_,rcorners_read rfl rfl (by repeat (first|exact hB.out.b2|apply Box.ext|apply Box.alloc|apply Box.pair0|apply Box.pair1|(refine Box.other ?_ (by omega) _ _))),(by have h:=HR.out;rw [HE.out] at h;subst h;rfl)⟩
theorem err_14 (o:Bool) (l:List (Int×Int)):err (opR o) l=0∨err (opR o) l=14:=by
 induction l with
 | nil=>exact .inl rfl
 | cons x l ih =>
  unfold err
  split
  · exact ih
  · rename_i h
    rcases opR_err o x.1 x.2 with h1 | h1
    · exact absurd h1 h
    · rw [h1];exact .inr rfl
theorem corR_comb (o:Bool) (a b c d:Int) (hv:validE a b c d=0):combE (opR o) a b c d=corR o a b c d:=by
 unfold combE corR
 rw [if_pos hv]
 split
 · rfl
 · rename_i h
   rcases err_14 o (four a b c d) with h1 | h1
   · exact absurd h1 h
   · rw [h1]
theorem opR_true:opR true=fun x y=>mdE x y:=by funext x y;rfl
theorem opR_false:opR false=fun x y=>mdE (x*y) 1:=by funext x y;rfl
theorem mulS_eq {a b c d:Int} (hv:validE a b c d=0):mulS a b c d=corR false a b c d:=by
 rw [← corR_comb false a b c d hv,opR_false];rfl
theorem quotS_eq {a b c d:Int} (hv:validE a b c d=0) (hz:¬ (c≤0∧0≤d)):quotS a b c d=corR true a b c d:=by
 rw [← corR_comb true a b c d hv,opR_true];unfold quotS;rw [if_pos hv,if_neg hz]
theorem rmul_any (a b c d:Int) (w:World):Gives Tryz.prog 238 #[.agg #[.int .i64 a,.int .i64 b],.agg #[.int .i64 c,.int .i64 d]] w
 (.tuple #[.agg #[.int .i64 (mulS a b c d).1,.int .i64 (mulS a b c d).2.1],.int .i64 (mulS a b c d).2.2]):=by
 by_cases hv:validE a b c d=0
 · obtain ⟨h1,h2⟩:=valid_zero hv
   obtain ⟨a0,a1,a2⟩:=check_zero h1
   obtain ⟨c0,c1,c2⟩:=check_zero h2
   have hvb:(validE a b c d != 0)=false:=by simp [hv]
   have HC:=hide (fun W=>rcorners_any false a b c d (by omega) (by omega) (by omega) (by omega) (by omega) (by omega) (by omega) (by omega) (by simp) W)
   rw [mulS_eq hv]
   clear h1 h2 hv
   (unfold Gives;go_enter Tryz.func238,Tryz.ntmps238)
   go_wp2_with (first|(go_at_call 220;(with_reducible refine (rboth_any _ _ _ _ _).mono ?_);intro _)|(go_at_call 241;(with_reducible refine (HC.out _).mono ?_);intro _))
   all_goals (refine bodyPost_give Up.go rfl ⟨_,(by simp [results,Tryz.results238,go_sem];rfl),?_⟩)
   all_goals rfl
 · have hvb:(validE a b c d != 0)=true:=by simp [hv]
   rw [show mulS a b c d=(0,0,validE a b c d) by unfold mulS combE;rw [if_neg hv]]
   clear hv
   (unfold Gives;go_enter Tryz.func238,Tryz.ntmps238)
   go_wp2_with (go_at_call 220;(with_reducible refine (rboth_any _ _ _ _ _).mono ?_);intro _)
   all_goals (refine bodyPost_give Up.go rfl ⟨_,(by simp [results,Tryz.results238,go_sem];rfl),?_⟩)
   all_goals rfl
theorem rquot_any (a b c d:Int) (w:World):Gives Tryz.prog 226 #[.agg #[.int .i64 a,.int .i64 b],.agg #[.int .i64 c,.int .i64 d]] w
 (.tuple #[.agg #[.int .i64 (quotS a b c d).1,.int .i64 (quotS a b c d).2.1],.int .i64 (quotS a b c d).2.2]):=by
 by_cases hv:validE a b c d=0
 · obtain ⟨h1,h2⟩:=valid_zero hv
   obtain ⟨a0,a1,a2⟩:=check_zero h1
   obtain ⟨c0,c1,c2⟩:=check_zero h2
   have hvb:(validE a b c d != 0)=false:=by simp [hv]
   by_cases hz:c≤0∧0≤d
   · rw [show quotS a b c d=(0,0,2) by unfold quotS;rw [if_pos hv,if_pos hz]]
     obtain ⟨hz1,hz2⟩:=hz
     clear h1 h2 hv
     (unfold Gives;go_enter Tryz.func226,Tryz.ntmps226)
     go_wp2_with (go_at_call 220;(with_reducible refine (rboth_any _ _ _ _ _).mono ?_);intro _)
     all_goals (refine bodyPost_give Up.go rfl ⟨_,(by simp [results,Tryz.results226,go_sem];rfl),?_⟩)
     all_goals rfl
   · have HC:=hide (fun W=>rcorners_any true a b c d (by omega) (by omega) (by omega) (by omega) (by omega) (by omega) (by omega) (by omega) (fun _=>by omega) W)
     rw [quotS_eq hv hz]
     clear h1 h2 hv
     by_cases hc:c≤0
     · have hd:d<0:=by omega
       clear hz
       (unfold Gives;go_enter Tryz.func226,Tryz.ntmps226)
       go_wp2_with (first|(go_at_call 220;(with_reducible refine (rboth_any _ _ _ _ _).mono ?_);intro _)|(go_at_call 241;(with_reducible refine (HC.out _).mono ?_);intro _))
       all_goals (refine bodyPost_give Up.go rfl ⟨_,(by simp [results,Tryz.results226,go_sem];rfl),?_⟩)
       all_goals rfl
     · have hc':0<c:=by omega
       clear hz hc
       (unfold Gives;go_enter Tryz.func226,Tryz.ntmps226)
       go_wp2_with (first|(go_at_call 220;(with_reducible refine (rboth_any _ _ _ _ _).mono ?_);intro _)|(go_at_call 241;(with_reducible refine (HC.out _).mono ?_);intro _))
       all_goals (refine bodyPost_give Up.go rfl ⟨_,(by simp [results,Tryz.results226,go_sem];rfl),?_⟩)
       all_goals rfl
 · have hvb:(validE a b c d != 0)=true:=by simp [hv]
   rw [show quotS a b c d=(0,0,validE a b c d) by unfold quotS;rw [if_neg hv]]
   clear hv
   (unfold Gives;go_enter Tryz.func226,Tryz.ntmps226)
   go_wp2_with (go_at_call 220;(with_reducible refine (rboth_any _ _ _ _ _).mono ?_);intro _)
   all_goals (refine bodyPost_give Up.go rfl ⟨_,(by simp [results,Tryz.results226,go_sem];rfl),?_⟩)
   all_goals rfl
theorem mdE_one (p:Int):mdE p 1=if -1152921504606846976≤p∧p≤1152921504606846976 then (p,p,0) else (0,0,14):=by
 unfold mdE ceiQ floQ
 simp only [show ¬ (1:Int)<0 by omega,if_false,Int.ediv_one,Int.neg_neg]
 split
 · rw [if_pos (by omega)]
 · rw [if_neg (by omega)]
theorem corR_square {l m:Int} (h0:0≤l) (h1:l≤m) (h2:m≤1152921504606846976):corR false l m l m=if 1073741824<m then (0,0,14) else endsS (l*l) (m*m):=by
 have a1:0≤l*l:=Int.mul_nonneg h0 h0
 have a2:l*l≤l*m:=Int.mul_le_mul_of_nonneg_left h1 h0
 have a3:l*m≤m*m:=Int.mul_le_mul_of_nonneg_right h1 (by omega)
 have a4:m*l=l*m:=Int.mul_comm _ _
 unfold corR
 rw [opR_false]
 unfold four
 by_cases hm:1073741824<m
 · rw [if_pos hm]
   have h3:=Int.mul_le_mul (show (1073741825:Int)≤m by omega) (show (1073741825:Int)≤m by omega) (by omega) (by omega)
   have hE:mdE (m*m) 1=(0,0,14):=by rw [mdE_one,if_neg (by omega)]
   rw [if_neg]
   simp only [err]
   simp only [hE]
   split <;> (try split) <;> (try split) <;> simp_all
 · rw [if_neg hm]
   have h3:=Int.mul_le_mul (show m≤1073741824 by omega) (show m≤1073741824 by omega) (by omega) (by omega)
   have e1:mdE (l*l) 1=(l*l,l*l,0):=by rw [mdE_one,if_pos (by omega)]
   have e2:mdE (l*m) 1=(l*m,l*m,0):=by rw [mdE_one,if_pos (by omega)]
   have e3:mdE (m*l) 1=(l*m,l*m,0):=by rw [mdE_one,if_pos (by omega),a4]
   have e4:mdE (m*m) 1=(m*m,m*m,0):=by rw [mdE_one,if_pos (by omega)]
   rw [if_pos (by simp only [err,e1,e2,e3,e4,if_true])]
   unfold endsS
   rw [if_pos ⟨(fits_iff _).2 (by omega),(fits_iff _).2 (by omega)⟩]
   simp only [acc,List.foldl_cons,List.foldl_nil,e1,e2,e3,e4]
   congr 1
   · omega
   · congr 1;omega
theorem rsquareS_any (a b:Int) (w:World):Gives Tryz.prog 240 #[.agg #[.int .i64 a,.int .i64 b]] w
 (.tuple #[.agg #[.int .i64 (squareS a b).1,.int .i64 (squareS a b).2.1],.int .i64 (squareS a b).2.2]):=by
 by_cases hv:checkE a b=0
 · obtain ⟨a0,a1,a2⟩:=check_zero hv
   have hvb:(checkE a b != 0)=false:=by simp [hv]
   have HC:=hide (fun W=>rcorners_any false (max a (max (-b) 0)) (max b (-a)) (max a (max (-b) 0)) (max b (-a)) (by omega) (by omega) (by omega) (by omega) (by omega) (by omega) (by omega) (by omega) (by simp) W)
   have HE:squareS a b=corR false (max a (max (-b) 0)) (max b (-a)) (max a (max (-b) 0)) (max b (-a)):=by
    unfold squareS;rw [if_pos hv,corR_square (by omega) (by omega) (by omega),show max (max 0 a) (-b)=max a (max (-b) 0) by omega,show max (-a) b=max b (-a) by omega]
   rw [HE]
   clear HE hv
   (unfold Gives;go_enter Tryz.func240,Tryz.ntmps240)
   go_wp2_with (first|(go_at_call 236;(with_reducible refine (rcheck_any _ _ _).mono ?_);intro _)|(go_at_call 241;(with_reducible refine (HC.out _).mono ?_);intro _))
   all_goals (refine bodyPost_give Up.go rfl ⟨_,(by simp [results,Tryz.results240,go_sem];rfl),?_⟩)
   all_goals rfl
 · have hvb:(checkE a b != 0)=true:=by simp [hv]
   rw [show squareS a b=(0,0,checkE a b) by unfold squareS;rw [if_neg hv]]
   clear hv
   (unfold Gives;go_enter Tryz.func240,Tryz.ntmps240)
   go_wp2_with (go_at_call 236;(with_reducible refine (rcheck_any _ _ _).mono ?_);intro _)
   all_goals (refine bodyPost_give Up.go rfl ⟨_,(by simp [results,Tryz.results240,go_sem];rfl),?_⟩)
   all_goals rfl
theorem rRoot_any (n:Int) (n0:-9223372036854775808≤n) (n1:n≤9223372036854775807) (w:World):Gives Tryz.prog 161 #[.int .i64 n] w (.int .i64 (rootV n)):=by
 by_cases h:n<0
 · rw [show rootV n = -1 by unfold rootV;rw [if_pos h]]
   (unfold Gives;go_enter Tryz.func161,Tryz.ntmps161)
   go_wp2
   go_ret
   exact ⟨rfl,Up.go⟩
 · rw [show rootV n=isq n by unfold rootV;rw [if_neg h]]
   have h0:0≤n:=by omega
   (unfold Gives;go_enter Tryz.func161,Tryz.ntmps161)
   go_wp2
   go_loop [3,4] (fun s3 s4=>∃ o B:Int,s3=.int .i64 o∧s4=.int .i64 B∧Hid (RootAt n o B)∧0≤o∧0≤B∧o+2*B≤4294967296) (fun _ s4=>(intOf s4).toNat)
   case atStart=>exact ⟨0,2147483648,rfl,rfl,hide (RootAt.start n h0 (by omega)),by omega,by omega,by omega⟩
   case round =>
    obtain ⟨o,B,rfl,rfl,hR,o0,b0,ob⟩:=hrel
    by_cases hB:0<B
    · obtain ⟨X,hX⟩:∃ X,o+B=X:=⟨_,rfl⟩
      have hst:=hR.out.step hB
      rw [hX] at hst
      have HS:=hide hst
      clear hst
      by_cases hbig:X≤3037000499
      · have hXX:=mul_bd (x:=X) (y:=X) (B:=3037000499) (C:=3037000499) (by omega) (by omega) (by omega) (by omega)
        have hX0:=mul_self_nonneg X
        go_wp2
        · have hle:X*X≤n:=by assumption
          have hs:=HS.out X (.inl ⟨rfl,hle⟩)
          exact ⟨⟨X,B / 2,rfl,rfl,hide hs,hs.nonneg,(hs.lt (by omega)).1,(hs.lt (by omega)).2⟩,by simp [intOf];omega⟩
        · have hlt:n<X*X:=by assumption
          have hs:=HS.out o (.inr ⟨rfl,hlt⟩)
          exact ⟨⟨o,B / 2,rfl,rfl,hide hs,hs.nonneg,(hs.lt (by omega)).1,(hs.lt (by omega)).2⟩,by simp [intOf];omega⟩
      · have hbig':3037000499<X:=by omega
        clear hbig
        have hlt:n<X*X:=by
         have:=sq_le_sq (a:=3037000500) (b:=X) (by omega) (by omega)
         omega
        have hs:=hide (HS.out o (.inr ⟨rfl,hlt⟩))
        clear hlt
        go_wp2
        exact ⟨⟨o,B / 2,rfl,rfl,hs,hs.out.nonneg,(hs.out.lt (by omega)).1,(hs.out.lt (by omega)).2⟩,by simp [intOf];omega⟩
    · obtain rfl:B=0:=by omega
      have hd:=hide (hR.out.done h0 (by omega))
      go_wp2
      go_ret
      exact ⟨ret_int hd.out,Up.refl _⟩
theorem rroots_any (a b:Int) (w:World):Gives Tryz.prog 225 #[.agg #[.int .i64 a,.int .i64 b]] w
 (.tuple #[.agg #[.int .i64 (rootsS a b).1,.int .i64 (rootsS a b).2.1],.int .i64 (rootsS a b).2.2]):=by
 by_cases hv:checkE a b=0
 · obtain ⟨a0,a1,a2⟩:=check_zero hv
   have hvb:(checkE a b != 0)=false:=by simp [hv]
   by_cases hn:a<0
   · rw [show rootsS a b=(0,0,2) by unfold rootsS;rw [if_pos hv,if_pos hn]]
     clear hv
     (unfold Gives;go_enter Tryz.func225,Tryz.ntmps225)
     go_wp2_with (go_at_call 236;(with_reducible refine (rcheck_any _ _ _).mono ?_);intro _)
     all_goals (refine bodyPost_give Up.go rfl ⟨_,(by simp [results,Tryz.results225,go_sem];rfl),?_⟩)
     all_goals rfl
   · rw [show rootsS a b=(isq a,(if isq b*isq b<b then isq b+1 else isq b),0) by unfold rootsS;rw [if_pos hv,if_neg hn]]
     obtain ⟨i0,i1,i2⟩:=isq_spec b (by omega) (by omega)
     have i3:=lt_of_sq (a:=isq b) (b:=1073741825) (by omega) (by omega)
     have H1:=hide (fun W=>rRoot_any a (by omega) (by omega) W)
     have H2:=hide (fun W=>rRoot_any b (by omega) (by omega) W)
     rw [show rootV a=isq a by unfold rootV;rw [if_neg (by omega)]] at H1
     rw [show rootV b=isq b by unfold rootV;rw [if_neg (by omega)]] at H2
     generalize isq b=r at *
     generalize isq a=q at *
     clear i2 hv
     have i4:=mul_bd (x:=r) (y:=r) (B:=1073741824) (C:=1073741824) (by omega) (by omega) (by omega) (by omega)
     have hn':0≤a:=by omega
     (unfold Gives;go_enter Tryz.func225,Tryz.ntmps225)
     go_wp2_with (first|(go_at_call 236;(with_reducible refine (rcheck_any _ _ _).mono ?_);intro _)|(go_at_call 161;(with_reducible refine (H1.out _).mono ?_);intro _)|(go_at_call 161;(with_reducible refine (H2.out _).mono ?_);intro _))
     all_goals (refine bodyPost_give Up.go rfl ⟨_,(by simp [results,Tryz.results225,go_sem];rfl),?_⟩)
     all_goals (first|rfl|(exfalso;omega))
 · have hvb:(checkE a b != 0)=true:=by simp [hv]
   rw [show rootsS a b=(0,0,checkE a b) by unfold rootsS;rw [if_neg hv]]
   clear hv
   (unfold Gives;go_enter Tryz.func225,Tryz.ntmps225)
   go_wp2_with (go_at_call 236;(with_reducible refine (rcheck_any _ _ _).mono ?_);intro _)
   all_goals (refine bodyPost_give Up.go rfl ⟨_,(by simp [results,Tryz.results225,go_sem];rfl),?_⟩)
   all_goals rfl
end Go.Proofs.YteafglginnonnaaGreat
