/- Several texts in one. -/
import Derived.Test.YteafglginnonnaaGreatOwn
import Derived.Test.YteafglginnonnaaGreatPush
import Derived.Test.YteafglginnonnaaGreatForceM
import Derived.Test.YteafglginnonnaaGreatSpanB
/- Package orbit: sets stepped, propagated. Conditions: what lies in memory, valid boxes. -/
set_option linter.unusedVariables false
set_option linter.unusedSimpArgs false
namespace Go.Proofs.YteafglginnonnaaGreat
open Go.RowKit Go.Shelf
def TBox:Rw BoxD:=⟨8,fun b=>[.int .i64 b.x0,.int .i64 b.x1,.int .i64 b.y0,.int .i64 b.y1,.int .i64 b.u0,.int .i64 b.u1,.int .i64 b.v0,.int .i64 b.v1],by decide,fun _=>rfl,fun _ u hu=>by simp only [List.mem_cons,List.not_mem_nil,or_false] at hu;rcases hu with rfl | rfl | rfl | rfl | rfl | rfl | rfl | rfl <;> rfl⟩
theorem Tryz.infobox:(Tryz.prog.info? 69).map (fun i=>(i.zero,i.size,i.bytes))=some (some (.agg #[.int .i64 (0),.int .i64 (0),.int .i64 (0),.int .i64 (0),.int .i64 (0),.int .i64 (0),.int .i64 (0),.int .i64 (0)]),8,64):=by kernel_rfl
theorem elem_box:ElemOk Tryz.prog TBox 34 69 64:=by
 obtain ⟨i,h1,h2,h3,h4⟩:=info_parts Tryz.infobox
 exact ⟨Tryz.underlying34,i,_,h1,h2,h3,h4,rfl⟩
theorem boxes_of {K:Nat→Prop} {w:World} {v:Value} {l:List BoxD} (h:Lst TBox K w v l):Boxes K w v l:=h
theorem of_boxes {K:Nat→Prop} {w:World} {v:Value} {l:List BoxD} (h:Boxes K w v l):Lst TBox K w v l:=h
@[go_sem] theorem nil_box (a:Addr) (n c:Nat) (w:World):(binOp .eql 34 (.slice (some a) n c) (.slice none 0 0)).run Tryz.prog w=.ok (.bool false) w:=by kernel_rfl
@[go_sem] theorem nil_box0 (n c:Nat) (w:World):(binOp .eql 34 (.slice none n c) (.slice none 0 0)).run Tryz.prog w=.ok (.bool true) w:=by kernel_rfl
def GivesList (w:World) (l:List BoxD) (y:Value) (e:Ending) (W:World):Prop:=∃ (a:Option Addr) (n c:Nat) (p:Ext),e=.returned (.tuple #[.slice a n c,y])∧Boxes (fun b=>w.heap.size≤b) W (.slice a n c) l∧W=ext w p
set_option maxRecDepth 100000 in
set_option maxHeartbeats 4000000 in
theorem oway_any {K:Nat→Prop} {w:World} {a:Option Addr} {n c:Nat} {l:List BoxD} (hl:Boxes K w (.slice a n c) l) (t m:Int):Gives Tryz.prog 83 #[.int .i64 t,.int .i64 m,.slice a n c] w (.int .i64 (wayE t m l)):=by
 have HS:=hide (fun W (hu:Up w W)=>oset_any (hl.keeps (hu.keeps K)))
 unfold wayE spanE
 generalize setE l=E at *
 clear hl
 by_cases h0:m<0
 · rw [if_neg (show ¬ (0≤m∧m≤400∧0≤t∧t≤1073741824 - m) by omega),if_neg (by decide)]
   have d0:decide (m<0)=true:=decide_eq_true h0
   (unfold Gives;go_enter Tryz.func83,Tryz.ntmps83)
   go_wp2
   go_ret
   exact ⟨rfl,(by repeat (first|with_reducible (first|exact Up.refl _|apply Up.plus)|apply Up.ext|apply Up.alloc|apply Up.drew|refine Up.setCell ?_ (by simp;try omega) _))⟩
 have d0:decide (m<0)=false:=decide_eq_false h0
 by_cases h1:400<m
 · rw [if_neg (show ¬ (0≤m∧m≤400∧0≤t∧t≤1073741824 - m) by omega),if_neg (by decide)]
   have d1:decide (400<m)=true:=decide_eq_true h1
   (unfold Gives;go_enter Tryz.func83,Tryz.ntmps83)
   go_wp2
   go_ret
   exact ⟨rfl,(by repeat (first|with_reducible (first|exact Up.refl _|apply Up.plus)|apply Up.ext|apply Up.alloc|apply Up.drew|refine Up.setCell ?_ (by simp;try omega) _))⟩
 have d1:decide (400<m)=false:=decide_eq_false h1
 have HW:=hide (fun W=>owithin_any t 0 (1073741824 - m) W)
 by_cases h2:withinB t 0 (1073741824 - m)=true
 · have h3:0≤t∧t≤1073741824 - m:=by simpa [withinB] using h2
   rw [if_pos (show 0≤m∧m≤400∧0≤t∧t≤1073741824 - m by omega),if_pos rfl]
   rw [h2] at HW
   clear h2 h3
   (unfold Gives;go_enter Tryz.func83,Tryz.ntmps83)
   go_wp2_with (first|(go_at_call 66;(with_reducible refine (HW.out _).mono ?_);intro _)|(go_at_call 130;(with_reducible refine (HS.out _ (by repeat (first|with_reducible (first|exact Up.refl _|apply Up.plus)|apply Up.ext|apply Up.alloc|apply Up.drew|refine Up.setCell ?_ (by simp;try omega) _))).mono ?_);intro _))
   go_ret
   exact ⟨rfl,(by repeat (first|with_reducible (first|exact Up.refl _|apply Up.plus)|apply Up.ext|apply Up.alloc|apply Up.drew|refine Up.setCell ?_ (by simp;try omega) _))⟩
 · have h2':withinB t 0 (1073741824 - m)=false:=by simpa using h2
   have h3:¬ (0≤t∧t≤1073741824 - m):=by simpa [withinB] using h2
   rw [if_neg (show ¬ (0≤m∧m≤400∧0≤t∧t≤1073741824 - m) by omega),if_neg (by decide)]
   rw [h2'] at HW
   clear h2 h3 h2'
   (unfold Gives;go_enter Tryz.func83,Tryz.ntmps83)
   go_wp2_with (first|(go_at_call 66;(with_reducible refine (HW.out _).mono ?_);intro _)|(go_at_call 130;(with_reducible refine (HS.out _ (by repeat (first|with_reducible (first|exact Up.refl _|apply Up.plus)|apply Up.ext|apply Up.alloc|apply Up.drew|refine Up.setCell ?_ (by simp;try omega) _))).mono ?_);intro _))
   go_ret
   exact ⟨rfl,(by repeat (first|with_reducible (first|exact Up.refl _|apply Up.plus)|apply Up.ext|apply Up.alloc|apply Up.drew|refine Up.setCell ?_ (by simp;try omega) _))⟩
set_option maxRecDepth 100000 in
set_option maxHeartbeats 4000000 in
theorem oclone_any {K:Nat→Prop} {w:World} {a:Option Addr} {n c:Nat} {l:List BoxD} (hl:Boxes K w (.slice a n c) l) (hn:l.length≤100000):Calls Tryz.prog 84 #[.slice a n c] w fun e W=>∃ (a':Option Addr) (n' c':Nat) (p:Ext),e=.returned (.slice a' n' c')∧Boxes (fun b=>w.heap.size≤b) W (.slice a' n' c') l∧W=ext w p:=by
 cases a with
 | none =>
  obtain rfl:l=[]:=by
   obtain ⟨_,_,h1,_,h3⟩:=hl
   simp at h1
   refine Classical.byContradiction fun h=>?_
   obtain ⟨b,o,e,_⟩:=h3 h
   rw [← h1.1] at e
   cases e
  obtain rfl:n=0:=(Boxes.at hl).1
  clear hl
  go_enter Tryz.func84,Tryz.ntmps84
  go_wp2
  refine bodyPost_ret (v:=.slice none 0 0) (by simp [results,Tryz.results84,go_sem]) rfl ⟨none,0,0,?_⟩
  obtain ⟨p,hp⟩:Up w w:=Up.refl w
  exact ⟨p,rfl,Lies.nil _ _ _ _ _ _,hp⟩
 | some ad =>
  have HL:=hide hl
  clear hl
  go_enter Tryz.func84,Tryz.ntmps84
  go_wp2_with (at_builtin;with_reducible refine stopA rfl ?_)
  refine hide ?_
  refine wpList_copy elem_box rfl (.tmp 5) (.tmp 6) rfl (w0:=w) (W:=w.alloc (.cells #[] 69)) (by repeat (first|with_reducible (first|exact Up.refl _|apply Up.plus)|apply Up.ext|apply Up.alloc|apply Up.drew|refine Up.setCell ?_ (by simp;try omega) _)) rfl (Box.mk rfl) (Nat.le_refl _) rfl ((of_boxes HL.out).up (by repeat (first|with_reducible (first|exact Up.refl _|apply Up.plus)|apply Up.ext|apply Up.alloc|apply Up.drew|refine Up.setCell ?_ (by simp;try omega) _))) hn (by decide) ?_
  intro g cap W' hu ho _
  have HE:=hide (show ∃ p,Boxes (fun b=>w.heap.size≤b) W' (.slice (some ⟨g,0,none⟩) l.length cap) l∧W'=ext w p from let ⟨p,hp⟩:=hu;⟨p,boxes_of (ho.lies (by omega)),hp⟩)
  clear hu ho
  go_wp2
  obtain ⟨p,hb,hp⟩:=HE.out
  exact bodyPost_ret (v:=.slice (some ⟨g,0,none⟩) l.length cap) (by simp [results,Tryz.results84,go_sem]) rfl ⟨_,_,_,p,rfl,hb,hp⟩
abbrev AlS (w:World) (a:Option Addr) (n c:Nat) (home:Int) (bs:List Bod) (d:DriftD) (t:Int) (l:List BoxD) (k:Nat) (v:Value) (wr:World):Prop :=
 Up w wr∧Box wr w.heap.size #[.slice a n c,.int .i64 home] 25∧Box wr (w.heap.size+1) #[.int .i64 (d.l.1),.int .i64 (d.l.2),.int .i64 (d.h.1),.int .i64 (d.h.2),.int .i64 (d.g)] 33∧Own TBox 69 (w.heap.size+2) wr v ((l.take k).map (stepV bs d t))∧stepsV bs d t (l.take k)=some ((l.take k).map (stepV bs d t))
set_option maxRecDepth 100000 in
set_option maxHeartbeats 20000000 in
theorem oall_any {K:Nat→Prop} {w:World} {a:Option Addr} {n c:Nat} {bs:List Bod} {home:Int} (hl:Bods K w (.slice a n c) bs) (hh:I64 home) (d:DriftD) (hw:worldDE bs home d=0) {t:Int} (ht:0≤t∧t≤1073741824) {KB:Nat→Prop} {ba:Option Addr} {bn bc:Nat} {l:List BoxD} (hL:Boxes KB w (.slice ba bn bc) l) (hok:∀ b∈l,BOk b) (hn:l.length≤512) :
 Calls Tryz.prog 85 #[.agg #[.slice a n c,.int .i64 home],.agg #[.int .i64 (d.l.1),.int .i64 (d.l.2),.int .i64 (d.h.1),.int .i64 (d.h.2),.int .i64 (d.g)],.int .i64 t,.slice ba bn bc] w (GivesList w ((stepsV bs d t l).getD []) (.bool (stepsV bs d t l).isSome)):=by
 have hbn:=(Boxes.at hL).1
 have HB:=hide hL
 have HST:=hide (fun (b:BoxD) (hb:BOk b) W (hu:Up w W)=>ostep_any (hl.keeps (hu.keeps K)) hh d hw ht hb)
 have HN:=hide (And.intro hbn (And.intro hok hn))
 have hb5:bn≤512:=by omega
 clear hL hl hw ht hh hbn hok hn
 go_enter Tryz.func85,Tryz.ntmps85
 go_wp2
 go_loopw [10,17] (fun s10 s17 wr=>∃ k:Nat,k≤bn∧s17=.int .i64 k∧Hid (AlS w a n c home bs d t l k s10 wr)) (fun _ s17 _=>bn - (intOf s17).toNat)
 case atStart=>exact ⟨0,by omega,rfl,hide ⟨(by repeat (first|with_reducible (first|exact Up.refl _|apply Up.plus)|apply Up.ext|apply Up.alloc|apply Up.drew|refine Up.setCell ?_ (by simp;try omega) _)),(by repeat (first|exact Box.mk rfl|(refine Box.mk ?_;simp;done)|apply Box.ext|apply Box.drew|apply Box.alloc|apply Box.two1|refine Box.other ?_ (by omega) _ _)),(by repeat (first|exact Box.mk rfl|(refine Box.mk ?_;simp;done)|apply Box.ext|apply Box.drew|apply Box.alloc|apply Box.two1|refine Box.other ?_ (by omega) _ _)),by simpa using Own.nil TBox 69 (w.heap.size+2) _,by simp [stepsV]⟩⟩
 case round =>
  obtain ⟨k,hk,rfl,HI⟩:=hrel
  have w0:=HI.out.2.1.cell 0 rfl
  have w1:=HI.out.2.1.cell 1 rfl
  have lw:=HI.out.2.1.lt
  have d0:=HI.out.2.2.1.cell 0 rfl
  have d1:=HI.out.2.2.1.cell 1 rfl
  have d2:=HI.out.2.2.1.cell 2 rfl
  have d3:=HI.out.2.2.1.cell 3 rfl
  have d4:=HI.out.2.2.1.cell 4 rfl
  have ld:=HI.out.2.2.1.lt
  by_cases hlt:k<bn
  · obtain ⟨b,o,p,rfl,hKb,hbw,hp,c0,c1,c2,c3,c4,c5,c6,c7⟩:=(Boxes.at (HB.out.keeps (HI.out.1.keeps KB))).2.2 k hlt
    have hkb:decide ((k:Int)<bn)=true:=by simp;omega
    have hbk:=HN.out.2.1 p (List.mem_of_getElem? hp)
    have HP:=hide (And.intro hp hbk)
    have HS:=hide (HST.out p hbk)
    clear hp hKb hbk
    by_cases hF:boxE (stepV bs d t p)=0
    · have HF:=hide hF
      rw [show (boxE (stepV bs d t p)==0)=true by simp [hF]] at HS
      clear hF
      have HG:=hide (stepsV_take HP.out.1 HF.out HI.out.2.2.2.2)
      have HM:=hide (show (l.take (k+1)).map (stepV bs d t)=(l.take k).map (stepV bs d t)++[stepV bs d t p] by rw [List.take_add_one,HP.out.1];simp)
      have hlen:((l.take k).map (stepV bs d t)).length=k:=by have:=HN.out.1;simp;omega
      have HLE:=hide hlen
      clear hlen
      generalize stepV bs d t p=S at HS HF HM
      obtain ⟨x0,x1,y0,y1,u0,u1,v0,v1⟩:=S
      obtain ⟨px0,px1,py0,py1,pu0,pu1,pv0,pv1⟩:=p
      unfold boxA at HS
      dsimp only at HS c0 c1 c2 c3 c4 c5 c6 c7
      go_wp2_with fail
      go_at_call 131
      refine (HS.out _ (by with_reducible repeat (first|exact HI.out.1|exact Up.refl _|apply Up.ext|apply Up.alloc|apply Up.drew|refine Up.setCell ?_ (by simp only;omega) _))).mono ?_
      intro q1
      go_wp2_with (at_builtin;with_reducible refine stopA rfl ?_)
      refine hide ?_
      refine wpList_push elem_box rfl (.tmp 31) (.tmp 33) rfl (w0:=w) ((by with_reducible repeat (first|exact HI.out.1|exact Up.refl _|apply Up.ext|apply Up.alloc|apply Up.drew|refine Up.setCell ?_ (by simp only;omega) _))) (base:=w.heap.size+2) (by omega) (by simp;omega) rfl (HI.out.2.2.2.1.up ((Up.refl wr).alloc _ |>.ext _ |>.alloc _ |>.alloc _)) (by rw [HLE.out];omega) (by decide) ⟨x0,x1,y0,y1,u0,u1,v0,v1⟩ rfl (Box.mk (by simp)) ?_
      intro g cap W' hu ho hbx
      rw [HLE.out]
      have HJ:=hide (show AlS w a n c home bs d t l (k+1) (.slice (some ⟨g,0,none⟩) (k+1) cap) W' from ⟨hu,hbx _ _ _ (fun e=>by have:=(HI.out.2.2.2.1.lt _ e).1;omega) (by with_reducible repeat (first|exact HI.out.2.1|apply Box.ext|apply Box.alloc|apply Box.drew|refine Box.other ?_ (by omega) _ _)),hbx _ _ _ (fun e=>by have:=(HI.out.2.2.2.1.lt _ e).1;omega) (by with_reducible repeat (first|exact HI.out.2.2.1|apply Box.ext|apply Box.alloc|apply Box.drew|refine Box.other ?_ (by omega) _ _)),by rw [HM.out];rw [HLE.out] at ho;exact ho,HG.out⟩)
      clear hu ho hbx
      go_wp2
      go_roundw
      case rel=>exact ⟨k+1,by omega,by go_num,HJ⟩
      case measure=>simp [intOf];omega
    · have HF:=hide (stepsV_lost HP.out.1 hF)
      rw [show (boxE (stepV bs d t p)==0)=false by simp [hF]] at HS
      clear hF
      generalize stepV bs d t p=S at HS
      obtain ⟨x0,x1,y0,y1,u0,u1,v0,v1⟩:=S
      obtain ⟨px0,px1,py0,py1,pu0,pu1,pv0,pv1⟩:=p
      unfold boxA at HS
      dsimp only at HS c0 c1 c2 c3 c4 c5 c6 c7
      go_wp2_with fail
      go_at_call 131
      refine (HS.out _ (by with_reducible repeat (first|exact HI.out.1|exact Up.refl _|apply Up.ext|apply Up.alloc|apply Up.drew|refine Up.setCell ?_ (by simp only;omega) _))).mono ?_
      intro q1
      go_wp2
      refine forgetW (fun WF=>Up w WF) (by with_reducible repeat (first|exact HI.out.1|exact Up.refl _|apply Up.ext|apply Up.alloc|apply Up.drew|refine Up.setCell ?_ (by simp only;omega) _)) ?_
      rintro WF ⟨p,hp⟩
      exact bodyPost_ret (v:=.tuple #[.slice none 0 0,.bool false]) (by simp [results,Tryz.results85,go_sem]) rfl ⟨none,0,0,p,by rw [HF.out];rfl,by rw [HF.out];exact Lies.nil _ _ _ _ _ _,hp⟩
  · have hkb:decide ((k:Int)<bn)=false:=by simp;omega
    have HE:=hide (show ∃ (a':Option Addr) (c':Nat) (p:Ext),u10=.slice a' bn c'∧Boxes (fun b=>w.heap.size≤b) wr u10 ((stepsV bs d t l).getD [])∧(stepsV bs d t l).isSome=true∧wr=ext w p by
     have hkl:k=l.length:=by have:=HN.out.1;omega
     have h4:=HI.out.2.2.2.1
     have h5:=HI.out.2.2.2.2
     rw [hkl,List.take_length] at h4 h5
     obtain ⟨a',c',e⟩:=h4.form
     obtain ⟨p,hp⟩:=HI.out.1
     refine ⟨a',c',p,?_,?_,by rw [h5];rfl,hp⟩
     · rw [e,List.length_map,← HN.out.1]
     · rw [h5]
       exact (boxes_of (h4.lies (by have:=HN.out.2.2;simp;omega))).mono (fun b _ hb=>by omega))
    obtain ⟨a',c',p,e1,hbx,his,hp⟩:=HE.out
    subst e1
    have HE2:=hide (And.intro hbx (And.intro his hp))
    clear HE hbx his hp HI w0 w1 lw d0 d1 d2 d3 d4 ld
    go_wp2
    exact bodyPost_ret (v:=.tuple #[.slice a' bn c',.bool true]) (by simp [results,Tryz.results85,go_sem]) rfl ⟨a',bn,c',p,by rw [HE2.out.2.1],HE2.out.1,HE2.out.2.2⟩
end Go.Proofs.YteafglginnonnaaGreat
/- Package orbit: a set after so many steps. Conditions: what lies in memory. -/
namespace Go.Proofs.YteafglginnonnaaGreat
open Go.RowKit Go.Shelf
theorem propV_more (bs:List Bod) (d:DriftD) (t:Int) (l:List BoxD) (k:Nat) (h:propV bs d k t l=none):∀ j,propV bs d (k+j) t l=none
 | 0=>h
 | j+1=>by rw [← Nat.add_assoc,propV_succ,propV_more bs d t l k h j];rfl
theorem propV_none {bs:List Bod} {d:DriftD} {t:Int} {l:List BoxD} {k m:Nat} (h:propV bs d k t l=none) (hm:k≤m):propV bs d m t l=none:=by
 obtain ⟨j,rfl⟩:=Nat.exists_eq_add_of_le hm
 exact propV_more bs d t l k h j
theorem setE_zero {l:List BoxD} (h:setE l=0):l.length≤512∧∀ b∈l,BOk b:=by
 unfold setE at h
 by_cases h5:512<l.length
 · rw [if_pos h5] at h;cases h
 · rw [if_neg h5] at h
   refine ⟨by omega,?_⟩
   clear h5
   induction l with
   | nil=>intro b hb;cases hb
   | cons x l ih =>
    unfold firstE at h
    by_cases hx:boxE x=0
    · rw [if_pos hx] at h
      intro b hb
      rcases List.mem_cons.1 hb with rfl | hb
      · exact (boxE_ok _).1 hx
      · exact ih h b hb
    · rw [if_neg hx] at h;exact absurd h hx
theorem propE_zero {bs:List Bod} {home:Int} {d:DriftD} {t m:Int} {l:List BoxD} (h:propE bs home d t m l=0):worldDE bs home d=0∧(0≤m∧m≤400∧0≤t∧t≤1073741824 - m)∧setE l=0:=by
 unfold propE wayE spanE at h
 by_cases hw:worldDE bs home d=0
 · rw [if_pos hw] at h
   by_cases hs:0≤m∧m≤400∧0≤t∧t≤1073741824 - m
   · rw [if_pos hs,if_pos rfl] at h
     exact ⟨hw,hs,h⟩
   · rw [if_neg hs,if_neg (by decide)] at h;cases h
 · rw [if_neg hw] at h;exact absurd h hw
theorem GivesList.fin {w WF:World} {l:List BoxD} {E:Int} {a:Option Addr} {n c:Nat} (hu:Up w WF) (hb:Boxes (fun b=>w.heap.size≤b) WF (.slice a n c) l):GivesList w l (.int .i64 E) (.returned (.tuple #[.slice a n c,.int .i64 E])) WF:=let ⟨p,hp⟩:=hu;⟨a,n,c,p,rfl,hb,hp⟩
set_option maxRecDepth 100000 in
set_option maxHeartbeats 20000000 in
theorem opropagate_any {K:Nat→Prop} {w:World} {a:Option Addr} {n c:Nat} {bs:List Bod} {home:Int} (hl:Bods K w (.slice a n c) bs) (hh:I64 home) (d:DriftD) {KB:Nat→Prop} {ba:Option Addr} {bn bc:Nat} {l:List BoxD} (hL:Boxes KB w (.slice ba bn bc) l) (t m:Int) :
 Calls Tryz.prog 43 #[.agg #[.slice a n c,.int .i64 home],.agg #[.int .i64 (d.l.1),.int .i64 (d.l.2),.int .i64 (d.h.1),.int .i64 (d.h.2),.int .i64 (d.g)],.int .i64 t,.slice ba bn bc,.int .i64 m] w (GivesList w (propagateV bs home d t m l).1 (.int .i64 (propagateV bs home d t m l).2)):=by
 have HW:=hide (fun W (hu:Up w W)=>oworld_any (hl.keeps (hu.keeps K)) hh d)
 have HY:=hide (fun W (hu:Up w W)=>oway_any (hL.keeps (hu.keeps KB)) t m)
 unfold propagateV
 by_cases he:propE bs home d t m l=0
 rotate_left
 · rw [if_neg he]
   dsimp only
   unfold propE at he ⊢
   by_cases hw:worldDE bs home d=0
   · rw [if_pos hw] at he ⊢
     rw [hw] at HW
     have hE:(wayE t m l != 0)=true:=by simpa using he
     generalize wayE t m l=E at *
     clear hl hh hL he hw
     go_enter Tryz.func43,Tryz.ntmps43
     go_wp2_with (first|(go_at_call 65;(with_reducible refine (HW.out _ (by repeat (first|with_reducible (first|exact Up.refl _|apply Up.plus)|apply Up.ext|apply Up.alloc|apply Up.drew|refine Up.setCell ?_ (by simp;try omega) _))).mono ?_);intro _)|(go_at_call 83;(with_reducible refine (HY.out _ (by repeat (first|with_reducible (first|exact Up.refl _|apply Up.plus)|apply Up.ext|apply Up.alloc|apply Up.drew|refine Up.setCell ?_ (by simp;try omega) _))).mono ?_);intro _))
     refine forgetW (fun WF=>Up w WF) (by repeat (first|with_reducible (first|exact Up.refl _|apply Up.plus)|apply Up.ext|apply Up.alloc|apply Up.drew|refine Up.setCell ?_ (by simp;try omega) _)) ?_
     rintro WF hu
     exact bodyPost_ret (v:=.tuple #[.slice none 0 0,.int .i64 E]) (by simp [results,Tryz.results43,go_sem]) rfl (GivesList.fin hu (Lies.nil _ _ _ _ _ _))
   · rw [if_neg hw] at he ⊢
     have hE:(worldDE bs home d != 0)=true:=by simpa using hw
     generalize worldDE bs home d=E at *
     clear hl hh hL he hw
     go_enter Tryz.func43,Tryz.ntmps43
     go_wp2_with (first|(go_at_call 65;(with_reducible refine (HW.out _ (by repeat (first|with_reducible (first|exact Up.refl _|apply Up.plus)|apply Up.ext|apply Up.alloc|apply Up.drew|refine Up.setCell ?_ (by simp;try omega) _))).mono ?_);intro _)|(go_at_call 83;(with_reducible refine (HY.out _ (by repeat (first|with_reducible (first|exact Up.refl _|apply Up.plus)|apply Up.ext|apply Up.alloc|apply Up.drew|refine Up.setCell ?_ (by simp;try omega) _))).mono ?_);intro _))
     refine forgetW (fun WF=>Up w WF) (by repeat (first|with_reducible (first|exact Up.refl _|apply Up.plus)|apply Up.ext|apply Up.alloc|apply Up.drew|refine Up.setCell ?_ (by simp;try omega) _)) ?_
     rintro WF hu
     exact bodyPost_ret (v:=.tuple #[.slice none 0 0,.int .i64 E]) (by simp [results,Tryz.results43,go_sem]) rfl (GivesList.fin hu (Lies.nil _ _ _ _ _ _))
 rw [if_pos he]
 obtain ⟨hw,hsp,hset⟩:=propE_zero he
 obtain ⟨hn,hok⟩:=setE_zero hset
 have hwy:wayE t m l=0:=by unfold wayE spanE;rw [if_pos hsp,if_pos rfl,hset]
 rw [hw] at HW
 rw [hwy] at HY
 have HC:=hide (fun W (hu:Up w W)=>oclone_any (hL.keeps (hu.keeps KB)) (by omega))
 have HALL:=hide (fun (cur:List BoxD) (hok:∀ b∈cur,BOk b) (hn:cur.length≤512) (tt:Int) (ht:0≤tt∧tt≤1073741824) W (hu:Up w W) (a':Option Addr) (n' c':Nat) (hb:Boxes (fun b=>w.heap.size≤b) W (.slice a' n' c') cur) =>
  oall_any (hl.keeps (hu.keeps K)) hh d hw ht hb hok hn)
 obtain ⟨mm,rfl⟩:=Int.eq_ofNat_of_zero_le hsp.1
 have HN:=hide (And.intro hn hok)
 clear hl hh hL he hw hset hwy hn hok
 rw [Int.toNat_natCast]
 obtain ⟨⟨RL,RE⟩,hR⟩:∃ R,optL (propV bs d mm t l)=R:=⟨_,rfl⟩
 rw [hR]
 have HR:=hide hR
 clear hR
 dsimp only
 go_enter Tryz.func43,Tryz.ntmps43
 go_wp2_with fail
 go_at_call 65
 refine forgetK (fun wr=>Up w wr∧Box wr w.heap.size #[.slice a n c,.int .i64 home] 25∧Box wr (w.heap.size+1) #[.int .i64 (d.l.1),.int .i64 (d.l.2),.int .i64 (d.h.1),.int .i64 (d.h.2),.int .i64 (d.g)] 33) ⟨(by repeat (first|with_reducible (first|exact Up.refl _|apply Up.plus)|apply Up.ext|apply Up.alloc|apply Up.drew|refine Up.setCell ?_ (by simp;try omega) _)),(by repeat (first|exact Box.mk rfl|(refine Box.mk ?_;simp;done)|apply Box.ext|apply Box.drew|apply Box.alloc|apply Box.two1|refine Box.other ?_ (by omega) _ _)),(by repeat (first|exact Box.mk rfl|(refine Box.mk ?_;simp;done)|apply Box.ext|apply Box.drew|apply Box.alloc|apply Box.two1|refine Box.other ?_ (by omega) _ _))⟩ ?_
 rintro V0 ⟨hu,b0,b1⟩
 have HB0:=hide (And.intro hu (And.intro b0 b1))
 clear hu b0 b1
 have w0:=(HB0.out.2.1).cell 0 rfl
 have w1:=(HB0.out.2.1).cell 1 rfl
 have lw:=(HB0.out.2.1).lt
 have dd0:=(HB0.out.2.2).cell 0 rfl
 have dd1:=(HB0.out.2.2).cell 1 rfl
 have dd2:=(HB0.out.2.2).cell 2 rfl
 have dd3:=(HB0.out.2.2).cell 3 rfl
 have dd4:=(HB0.out.2.2).cell 4 rfl
 have ldd:=(HB0.out.2.2).lt
 refine (HW.out _ (by with_reducible repeat (first|exact HB0.out.1|exact Up.refl _|apply Up.ext|apply Up.alloc|apply Up.drew|refine Up.setCell ?_ (by simp only;omega) _))).mono ?_
 intro qa
 go_wp2_with (go_at_call 83;(with_reducible refine (HY.out _ (by with_reducible repeat (first|exact HB0.out.1|exact Up.refl _|apply Up.ext|apply Up.alloc|apply Up.drew|refine Up.setCell ?_ (by simp only;omega) _))).mono ?_);intro _)
 go_at_call 84
 refine (HC.out _ (by with_reducible repeat (first|exact HB0.out.1|exact Up.refl _|apply Up.ext|apply Up.alloc|apply Up.drew|refine Up.setCell ?_ (by simp only;omega) _))).mono ?_
 rintro _ _ ⟨a0,n0,c0,qb,rfl,hcl,rfl⟩
 go_wp2_with fail
 refine forgetW (fun wr=>Up w wr∧Box wr w.heap.size #[.slice a n c,.int .i64 home] 25∧Box wr (w.heap.size+1) #[.int .i64 (d.l.1),.int .i64 (d.l.2),.int .i64 (d.h.1),.int .i64 (d.h.2),.int .i64 (d.g)] 33∧Boxes (fun b=>w.heap.size≤b) wr (.slice a0 n0 c0) l) ⟨(by with_reducible repeat (first|exact HB0.out.1|exact Up.refl _|apply Up.ext|apply Up.alloc|apply Up.drew|refine Up.setCell ?_ (by simp only;omega) _)),(by with_reducible repeat (first|exact HB0.out.2.1|apply Box.ext|apply Box.alloc|apply Box.drew|refine Box.other ?_ (by omega) _ _)),(by with_reducible repeat (first|exact HB0.out.2.2|apply Box.ext|apply Box.alloc|apply Box.drew|refine Box.other ?_ (by omega) _ _)),(by first|(rw [← ext_ext];exact boxes_of ((of_boxes hcl).mono (fun b _ hb=>by have:=(HB0.out.1).below.size;simp at hb;omega)))|exact boxes_of ((of_boxes hcl).mono (fun b _ hb=>by have:=(HB0.out.1).below.size;simp at hb;omega)))⟩ ?_
 clear hcl
 intro V9 h9
 have H0:=hide h9
 clear h9 HB0 w0 w1 lw dd0 dd1 dd2 dd3 dd4 ldd
 go_loopw [14,34] (fun s14 s34 wr=>∃ (k:Nat) (a':Option Addr) (n' c':Nat) (cur:List BoxD),k≤mm∧s34=.int .i64 k∧s14=.slice a' n' c'∧Hid ((Up w wr∧Box wr w.heap.size #[.slice a n c,.int .i64 home] 25∧Box wr (w.heap.size+1) #[.int .i64 (d.l.1),.int .i64 (d.l.2),.int .i64 (d.h.1),.int .i64 (d.h.2),.int .i64 (d.g)] 33∧Boxes (fun b=>w.heap.size≤b) wr (.slice a' n' c') cur)∧propV bs d k t l=some cur∧(∀ b∈cur,BOk b)∧cur.length≤512)) (fun _ s34 _=>mm - (intOf s34).toNat)
 case atStart=>exact ⟨0,a0,n0,c0,l,by omega,rfl,rfl,hide ⟨H0.out,rfl,HN.out.2,HN.out.1⟩⟩
 case round =>
  obtain ⟨k,a',n',c',cur,hk,rfl,rfl,HI⟩:=hrel
  clear H0
  have w0:=HI.out.1.2.1.cell 0 rfl
  have w1:=HI.out.1.2.1.cell 1 rfl
  have lw:=HI.out.1.2.1.lt
  have dd0:=HI.out.1.2.2.1.cell 0 rfl
  have dd1:=HI.out.1.2.2.1.cell 1 rfl
  have dd2:=HI.out.1.2.2.1.cell 2 rfl
  have dd3:=HI.out.1.2.2.1.cell 3 rfl
  have dd4:=HI.out.1.2.2.1.cell 4 rfl
  have ldd:=HI.out.1.2.2.1.lt
  by_cases hlt:k<mm
  · have hkb:decide ((k:Int)<mm)=true:=by simp;omega
    have hkn:decide (k<mm)=true:=by simp;omega
    have HA:=hide (HALL.out cur HI.out.2.2.1 HI.out.2.2.2 (t+k) ⟨by omega,by omega⟩ wr HI.out.1.1 a' n' c' HI.out.1.2.2.2)
    rcases hS:stepsV bs d (t+k) cur with _ | nx
    · rw [hS] at HA
      have HF:=hide (show propV bs d mm t l=none from propV_none (k:=k+1) (by rw [propV_succ,HI.out.2.1];exact hS) (by omega))
      clear hS
      go_wp2_with fail
      go_at_call 85
      refine HA.out.mono ?_
      rintro _ _ ⟨ax,nx,cx,px,rfl,hbx,rfl⟩
      clear hbx HA
      obtain ⟨rfl,rfl⟩:[]=RL∧14=RE:=by have:=HR.out;rw [HF.out] at this;cases this;exact ⟨rfl,rfl⟩
      go_wp2
      refine forgetW (fun WF=>Up w WF) (by with_reducible repeat (first|exact HI.out.1.1|exact Up.refl _|apply Up.ext|apply Up.alloc|apply Up.drew|refine Up.setCell ?_ (by simp only;omega) _)) ?_
      rintro WF hu
      exact bodyPost_ret (v:=.tuple #[.slice none 0 0,.int .i64 14]) (by simp [results,Tryz.results43,go_sem]) rfl (GivesList.fin hu (Lies.nil _ _ _ _ _ _))
    · rw [hS] at HA
      obtain ⟨hmap,hbk⟩:=stepsV_some hS
      have HF:=hide (show propV bs d (k+1) t l=some nx by rw [propV_succ,HI.out.2.1];exact hS)
      have HLn:=hide (show (∀ b∈nx,BOk b)∧nx.length≤512 from ⟨hbk,by rw [hmap,List.length_map];exact HI.out.2.2.2⟩)
      clear hS hmap hbk
      go_wp2_with fail
      go_at_call 85
      refine HA.out.mono ?_
      rintro _ _ ⟨ax,nn,cx,px,rfl,hbx,rfl⟩
      have HBX:=hide (show Boxes (fun b=>w.heap.size≤b) (ext wr px) (.slice ax nn cx) nx from boxes_of ((of_boxes hbx).mono (fun b _ hb=>by have:=HI.out.1.1.below.size;omega)))
      clear hbx HA
      go_wp2_with fail
      go_roundw
      case rel=>exact ⟨k+1,ax,nn,cx,nx,by omega,by go_num,rfl,hide ⟨⟨(by with_reducible repeat (first|exact HI.out.1.1|exact Up.refl _|apply Up.ext|apply Up.alloc|apply Up.drew|refine Up.setCell ?_ (by simp only;omega) _)),(by with_reducible repeat (first|exact HI.out.1.2.1|apply Box.ext|apply Box.alloc|apply Box.drew|refine Box.other ?_ (by omega) _ _)),(by with_reducible repeat (first|exact HI.out.1.2.2.1|apply Box.ext|apply Box.alloc|apply Box.drew|refine Box.other ?_ (by omega) _ _)),HBX.out⟩,HF.out,HLn.out⟩⟩
      case measure=>simp [intOf];omega
  · have hkb:decide ((k:Int)<mm)=false:=by simp;omega
    have hkn:decide (k<mm)=false:=by simp;omega
    have HF:=hide (show propV bs d mm t l=some cur by rw [show mm=k by omega];exact HI.out.2.1)
    obtain ⟨rfl,rfl⟩:cur=RL∧0=RE:=by have:=HR.out;rw [HF.out] at this;cases this;exact ⟨rfl,rfl⟩
    go_wp2
    exact bodyPost_ret (v:=.tuple #[.slice a' n' c',.int .i64 0]) (by simp [results,Tryz.results43,go_sem]) rfl (GivesList.fin HI.out.1.1 HI.out.1.2.2.2)
end Go.Proofs.YteafglginnonnaaGreat
/- sort.Search, and how near a segment comes in whole numbers. -/
namespace Go.Proofs.YteafglginnonnaaGreat
open Go.RowKit
end Go.Proofs.YteafglginnonnaaGreat
/- The corners of areas: an iterator that ranges over pairs in a loop. No conditions. -/
namespace Go.Proofs.YteafglginnonnaaGreat
open Go.RowKit Go.Shelf
attribute [local go_sem] Oper.semAt_some
def mark (D:Nat):Deferred:={ target:=.collected D,args:=#[] }
end Go.Proofs.YteafglginnonnaaGreat
/- What surely stays clear of the origin. -/
namespace Go.Proofs.YteafglginnonnaaGreat
open Go.RowKit Go.Shelf
attribute [local go_sem] Oper.semAt_some
end Go.Proofs.YteafglginnonnaaGreat
/- Plain facts about what comes within r of the origin; least numbers. No program. -/
namespace Go.Proofs.YteafglginnonnaaGreat
open Go.RowKit
theorem least (F:Int→Bool) (n:Nat):∃ k:Nat,k≤n∧(∀ x:Nat,x<k→F x=false)∧(k<n→F k=true):=by
 induction n with
 | zero=>exact ⟨0,by omega,by omega,by omega⟩
 | succ n ih =>
  obtain ⟨k,h1,h2,h3⟩:=ih
  by_cases hk:k<n
  · exact ⟨k,by omega,h2,fun _=>h3 hk⟩
  · have hkn:k=n:=by omega
    subst hkn
    by_cases hF:F (k:Int)=true
    · exact ⟨k,by omega,h2,fun _=>hF⟩
    · refine ⟨k+1,by omega,fun x hx=>?_,by omega⟩
      by_cases hxk:x=k
      · subst hxk;exact Bool.eq_false_iff.2 hF
      · exact h2 x (by omega)
end Go.Proofs.YteafglginnonnaaGreat
/- The chapter's examples that each law asks. -/
namespace Go.Proofs.YteafglginnonnaaGreat
open Go.RowKit
end Go.Proofs.YteafglginnonnaaGreat
/- The document's own functions about places, distances and wide products: what they return. -/
namespace Go.Proofs.YteafglginnonnaaGreat
open Go.RowKit
end Go.Proofs.YteafglginnonnaaGreat
/- The document's own functions about spans: what they return. No conditions. -/
namespace Go.Proofs.YteafglginnonnaaGreat
open Go.RowKit
end Go.Proofs.YteafglginnonnaaGreat
/- Signs of cross and dot products: those of the exact numbers, in the program. Numbers that fit 64 bits. -/
namespace Go.Proofs.YteafglginnonnaaGreat
open Go.RowKit
end Go.Proofs.YteafglginnonnaaGreat
/- The document's own bisection for how near a segment comes. -/
namespace Go.Proofs.YteafglginnonnaaGreat
open Go.RowKit
end Go.Proofs.YteafglginnonnaaGreat
/- Signs of cross and dot products: those of the exact numbers, in the document. Numbers that fit 64 bits. -/
namespace Go.Proofs.YteafglginnonnaaGreat
open Go.RowKit
end Go.Proofs.YteafglginnonnaaGreat
/- The document's quotient of a wide product, and its MulDiv: what they return. Conditions: the words' ranges, a divisor that is not 0. -/
namespace Go.Proofs.YteafglginnonnaaGreat
open Go.RowKit
end Go.Proofs.YteafglginnonnaaGreat
/- The document's own gathering over the corners of two spans: products, quotients. Conditions: the ends' ranges; divisors that are not 0. -/
namespace Go.Proofs.YteafglginnonnaaGreat
open Go.RowKit
end Go.Proofs.YteafglginnonnaaGreat
/- The document's own products, squares and quotients of spans: what they return. No conditions. -/
namespace Go.Proofs.YteafglginnonnaaGreat
open Go.RowKit
end Go.Proofs.YteafglginnonnaaGreat
/- The whole root of a number and of a span: the document's. -/
namespace Go.Proofs.YteafglginnonnaaGreat
open Go.RowKit
end Go.Proofs.YteafglginnonnaaGreat
