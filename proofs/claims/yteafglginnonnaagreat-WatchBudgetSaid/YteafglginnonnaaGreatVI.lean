/- Several texts in one. -/
import Derived.Test.YteafglginnonnaaGreatWof
import Derived.Test.YteafglginnonnaaGreatVO
import Derived.Test.YteafglginnonnaaGreatMore
import Derived.Test.YteafglginnonnaaGreatWatchJ
/- A copy of a list of numbers. Conditions: what lies in memory. -/
set_option linter.unusedVariables false
set_option linter.unusedSimpArgs false
namespace Go.Proofs.YteafglginnonnaaGreat
open Go.RowKit Go.Shelf
@[go_sem] theorem nil_int (a:Addr) (n c:Nat) (w:World):(binOp .eql 22 (.slice (some a) n c) (.slice none 0 0)).run Tryz.prog w=.ok (.bool false) w:=by kernel_rfl
@[go_sem] theorem nil_int0 (n c:Nat) (w:World):(binOp .eql 22 (.slice none n c) (.slice none 0 0)).run Tryz.prog w=.ok (.bool true) w:=by kernel_rfl
set_option maxRecDepth 100000 in
set_option maxHeartbeats 4000000 in
theorem iclone_any {K:Nat→Prop} {w:World} {a:Option Addr} {n c:Nat} {l:List Int} (hl:Lst TInt K w (.slice a n c) l) (h0:l≠[]) (hn:l.length≤100000):Calls Tryz.prog 92 #[.slice a n c] w fun e W=>∃ (g cap:Nat) (p:Ext),e=.returned (.slice (some ⟨g,0,none⟩) l.length cap)∧Own TInt 3 w.heap.size W (.slice (some ⟨g,0,none⟩) l.length cap) l∧W=ext w p:=by
 cases a with
 | none =>
  obtain ⟨_,_,h1,_,h3⟩:=hl
  simp at h1
  obtain ⟨b,o,e,_⟩:=h3 h0
  rw [← h1.1] at e
  cases e
 | some ad =>
  have HL:=hide hl
  clear hl h0
  go_enter Tryz.func92,Tryz.ntmps92
  go_wp2_with (at_builtin;with_reducible refine stopA rfl ?_)
  refine hide ?_
  refine wpList_copy elem_int rfl (.tmp 5) (.tmp 6) rfl (w0:=w) (W:=w.alloc (.cells #[] 3)) (by repeat (first|with_reducible (first|exact Up.refl _|apply Up.plus)|apply Up.ext|apply Up.alloc|apply Up.drew|refine Up.setCell ?_ (by simp;try omega) _)) rfl (Box.mk rfl) (Nat.le_refl _) rfl (HL.out.up (by repeat (first|with_reducible (first|exact Up.refl _|apply Up.plus)|apply Up.ext|apply Up.alloc|apply Up.drew|refine Up.setCell ?_ (by simp;try omega) _))) hn (by decide) ?_
  intro g cap W' hu ho _
  have HE:=hide (show ∃ p,Own TInt 3 w.heap.size W' (.slice (some ⟨g,0,none⟩) l.length cap) l∧W'=ext w p from let ⟨p,hp⟩:=hu;⟨p,ho,hp⟩)
  clear hu ho
  go_wp2
  obtain ⟨p,hb,hp⟩:=HE.out
  exact bodyPost_ret (v:=.slice (some ⟨g,0,none⟩) l.length cap) (by simp [results,Tryz.results92,go_sem]) rfl ⟨_,_,p,rfl,hb,hp⟩
end Go.Proofs.YteafglginnonnaaGreat
/- Package watch: how many cells some offers leave together. Conditions: what lies in memory. -/
namespace Go.Proofs.YteafglginnonnaaGreat
open Go.RowKit Go.Shelf
def mixT (T:Int→Int→VwD) (ch:List Int) (i k:Int):Bool:=decide (i=k) || !(ch.any (apartT T i k))
def cntT (T:Int→Int→VwD) (ch:List Int) (i:Int) (k:Nat):Nat:=(List.range k).countP fun (j:Nat)=>mixT T ch i j
def confT (T:Int→Int→VwD) (ch:List Int) (cn:Nat) (k:Nat):Nat:=(List.range k).foldl (fun m (i:Nat)=>max m (cntT T ch i cn)) 0
theorem cntT_succ (T:Int→Int→VwD) (ch:List Int) (i:Int) (k:Nat):cntT T ch i (k+1)=cntT T ch i k+(if mixT T ch i k=true then 1 else 0):=by
 unfold cntT
 rw [List.range_succ,List.countP_append,List.countP_cons,List.countP_nil]
 simp
theorem cntT_le (T:Int→Int→VwD) (ch:List Int) (i:Int) (k:Nat):cntT T ch i k≤k:=by
 unfold cntT
 have:=List.countP_le_length (p:=fun j:Nat=>mixT T ch i j) (l:=List.range k)
 simpa using this
theorem confT_succ (T:Int→Int→VwD) (ch:List Int) (cn k:Nat):confT T ch cn (k+1)=max (confT T ch cn k) (cntT T ch k cn):=by
 unfold confT
 rw [List.range_succ,List.foldl_append]
 rfl
theorem confT_le (T:Int→Int→VwD) (ch:List Int) (cn:Nat):∀ k,confT T ch cn k≤cn
 | 0=>Nat.zero_le _
 | k+1=>by
  rw [confT_succ]
  have:=confT_le T ch cn k
  have:=cntT_le T ch k cn
  omega
set_option maxRecDepth 100000 in
set_option maxHeartbeats 20000000 in
theorem wconf_any {w:World} {PB MB:Nat} {oa:Option Addr} {on oc cn:Nat} {T:Int→Int→VwD} (hP:PlanT w PB MB oa on oc cn T) {K:Nat→Prop} {ca:Option Addr} {n c:Nat} {ch:List Int} (hc:Lst TInt K w (.slice ca n c) ch) (hr:∀ o∈ch,0≤o∧o<on) :
 Gives Tryz.prog 90 #[.pointer (some ⟨PB,0,none⟩),.slice ca n c] w (.int .i64 (confT T ch cn cn)):=by
 have HC:=hide (fun (i k:Int) (i0:0≤i) (i1:i<cn) (k0:0≤k) (k1:k<cn) (W:World) (hu:Up w W) (bp bi bk:Nat) (hp:Box W bp #[.pointer (some ⟨PB,0,none⟩)] 105) (hbi:Box W bi #[.int .i64 i] 3) (hbk:Box W bk #[.int .i64 k] 3) =>
  anyint_any 133 #[.pointer (some ⟨bp,0,none⟩),.pointer (some ⟨bi,0,none⟩),.pointer (some ⟨bk,0,none⟩)] (enters_of Tryz.func133 (by kernel_rfl) rfl) (apartT T i k) (hc.up hu)
   (fun p V hpm hv=>wconf1_any (w:=w) ((hP.up hu).up hv) (hp.up hv) (hbi.up hv) (hbk.up hv) i0 i1 k0 k1 (hr p hpm).1 (hr p hpm).2))
 have HP:=hide hP
 have hn:=hP.n
 clear hP hc hr
 have q1:=HP.out.p.cell 1 rfl
 have lq:=HP.out.p.lt
 (unfold Gives;go_enter Tryz.func90,Tryz.ntmps90)
 go_wp2_with fail
 refine forgetW (fun V=>(Up w V∧Box V w.heap.size #[.pointer (some ⟨PB,0,none⟩)] 105)∧PlanT V PB MB oa on oc cn T) ⟨⟨(by repeat (first|with_reducible (first|exact Up.refl _|apply Up.plus)|apply Up.ext|apply Up.alloc|apply Up.drew|refine Up.setCell ?_ (by simp;try omega) _)),(by repeat (first|exact Box.mk rfl|(refine Box.mk ?_;simp;done)|apply Box.ext|apply Box.drew|apply Box.alloc|apply Box.two1|refine Box.other ?_ (by omega) _ _))⟩,HP.out.up (by repeat (first|with_reducible (first|exact Up.refl _|apply Up.plus)|apply Up.ext|apply Up.alloc|apply Up.drew|refine Up.setCell ?_ (by simp;try omega) _))⟩ ?_
 clear q1 lq
 intro V0 h0
 have H0:=hide h0
 clear h0
 go_loopw [5,14] (fun s5 s14 wr=>∃ k:Nat,k≤cn∧s14=.int .i64 k∧s5=.int .i64 (confT T ch cn k)∧Hid ((Up w wr∧Box wr w.heap.size #[.pointer (some ⟨PB,0,none⟩)] 105)∧PlanT wr PB MB oa on oc cn T)) (fun _ s14 _=>cn - (intOf s14).toNat)
 case atStart=>exact ⟨0,by omega,rfl,rfl,H0⟩
 case round =>
  obtain ⟨k,hk,rfl,rfl,HI⟩:=hrel
  clear H0
  have hcl:=confT_le T ch cn k
  by_cases hlt:k<cn
  · have hkb:decide ((k:Int)<cn)=true:=by simp;omega
    have hkn:decide (k<cn)=true:=by simp;omega
    have p0:=HI.out.1.2.cell 0 rfl
    have lp:=HI.out.1.2.lt
    have q1:=HI.out.2.p.cell 1 rfl
    have lq:=HI.out.2.p.lt
    have HM:=hide (confT_succ T ch cn k)
    go_wp2_with fail
    obtain ⟨bi,hbi⟩:∃ g,g=wr.heap.size:=⟨_,rfl⟩
    try rw [← hbi]
    refine forgetW (fun V=>((Up w V∧Box V w.heap.size #[.pointer (some ⟨PB,0,none⟩)] 105)∧PlanT V PB MB oa on oc cn T)∧Box V bi #[.int .i64 k] 3) ⟨⟨⟨(by with_reducible repeat (first|exact HI.out.1.1|exact Up.refl _|apply Up.ext|apply Up.alloc|apply Up.drew|refine Up.setCell ?_ (by simp only;omega) _)),HI.out.1.2.up (by repeat (first|with_reducible (first|exact Up.refl _|apply Up.plus)|apply Up.ext|apply Up.alloc|apply Up.drew|refine Up.setCell ?_ (by simp;try omega) _))⟩,HI.out.2.up (by repeat (first|with_reducible (first|exact Up.refl _|apply Up.plus)|apply Up.ext|apply Up.alloc|apply Up.drew|refine Up.setCell ?_ (by simp;try omega) _))⟩,by rw [hbi];exact (by repeat (first|exact Box.mk rfl|(refine Box.mk ?_;simp;done)|apply Box.ext|apply Box.drew|apply Box.alloc|apply Box.two1|refine Box.other ?_ (by omega) _ _))⟩ ?_
    clear hbi p0 lp q1 lq HI
    intro V1 h1
    have H1:=hide h1
    clear h1
    go_loopw [7,21] (fun s7 s21 wr=>∃ j:Nat,j≤cn∧s21=.int .i64 j∧s7=.int .i64 (cntT T ch k j)∧Hid (((Up w wr∧Box wr w.heap.size #[.pointer (some ⟨PB,0,none⟩)] 105)∧PlanT wr PB MB oa on oc cn T)∧Box wr bi #[.int .i64 k] 3)) (fun _ s21 _=>cn - (intOf s21).toNat)
    case atStart=>exact ⟨0,by omega,rfl,rfl,H1⟩
    case round =>
     obtain ⟨j,hj,rfl,rfl,HJ⟩:=hrel
     clear H1
     have hcj:=cntT_le T ch k j
     by_cases hlj:j<cn
     · have hjb:decide ((j:Int)<cn)=true:=by simp;omega
       have hjn:decide (j<cn)=true:=by simp;omega
       have hsu:=cntT_succ T ch k j
       have i00:=HJ.out.2.cell 0 rfl
       have li:=HJ.out.2.lt
       by_cases hkj:k=j
       · have hb1:((k:Int)==(j:Int))=true:=by simp;omega
         have HS:=hide (show cntT T ch k (j+1)=cntT T ch k j+1 by rw [hsu,show mixT T ch k j=true by unfold mixT;rw [decide_eq_true (by omega)];rfl,if_pos rfl])
         clear hsu hkj
         go_wp2_with fail
         go_roundw
         case rel=>exact ⟨j+1,by omega,by go_num,by rw [HS.out];go_num,hide ⟨⟨⟨(by with_reducible repeat (first|exact HJ.out.1.1.1|exact Up.refl _|apply Up.ext|apply Up.alloc|apply Up.drew|refine Up.setCell ?_ (by simp only;omega) _)),HJ.out.1.1.2.up (by repeat (first|with_reducible (first|exact Up.refl _|apply Up.plus)|apply Up.ext|apply Up.alloc|apply Up.drew|refine Up.setCell ?_ (by simp;try omega) _))⟩,HJ.out.1.2.up (by repeat (first|with_reducible (first|exact Up.refl _|apply Up.plus)|apply Up.ext|apply Up.alloc|apply Up.drew|refine Up.setCell ?_ (by simp;try omega) _))⟩,HJ.out.2.up (by repeat (first|with_reducible (first|exact Up.refl _|apply Up.plus)|apply Up.ext|apply Up.alloc|apply Up.drew|refine Up.setCell ?_ (by simp;try omega) _))⟩⟩
         case measure=>simp [intOf];omega
       · have hb1:((k:Int)==(j:Int))=false:=by simp;omega
         have HC2:=hide (HC.out k j (by omega) (by omega) (by omega) (by omega))
         have hmx:mixT T ch k j=!(ch.any (apartT T k j)):=by unfold mixT;rw [decide_eq_false (by omega)];rfl
         rw [hmx] at hsu
         generalize ch.any (apartT T k j)=A at HC2 hsu
         cases A
         · have HS:=hide (show cntT T ch k (j+1)=cntT T ch k j+1 by rw [hsu];rfl)
           clear hsu hkj hmx
           go_wp2_with fail
           go_at_call 134
           obtain ⟨bk,hbk⟩:∃ g,g=wr.heap.size:=⟨_,rfl⟩
           try rw [← hbk]
           refine forgetK (fun V=>(((Up w V∧Box V w.heap.size #[.pointer (some ⟨PB,0,none⟩)] 105)∧PlanT V PB MB oa on oc cn T)∧Box V bi #[.int .i64 k] 3)∧Box V bk #[.int .i64 j] 3) ⟨⟨⟨⟨(by with_reducible repeat (first|exact HJ.out.1.1.1|exact Up.refl _|apply Up.ext|apply Up.alloc|apply Up.drew|refine Up.setCell ?_ (by simp only;omega) _)),HJ.out.1.1.2.up (by repeat (first|with_reducible (first|exact Up.refl _|apply Up.plus)|apply Up.ext|apply Up.alloc|apply Up.drew|refine Up.setCell ?_ (by simp;try omega) _))⟩,HJ.out.1.2.up (by repeat (first|with_reducible (first|exact Up.refl _|apply Up.plus)|apply Up.ext|apply Up.alloc|apply Up.drew|refine Up.setCell ?_ (by simp;try omega) _))⟩,HJ.out.2.up (by repeat (first|with_reducible (first|exact Up.refl _|apply Up.plus)|apply Up.ext|apply Up.alloc|apply Up.drew|refine Up.setCell ?_ (by simp;try omega) _))⟩,by rw [hbk];exact (by repeat (first|exact Box.mk rfl|(refine Box.mk ?_;simp;done)|apply Box.ext|apply Box.drew|apply Box.alloc|apply Box.two1|refine Box.other ?_ (by omega) _ _))⟩ ?_
           clear hbk HJ i00 li
           intro V2 h2
           have HJ:=hide h2.1
           refine (HC2.out V2 h2.1.1.1.1 w.heap.size bi bk h2.1.1.1.2 h2.1.2 h2.2).mono ?_
           clear h2
           intro q1
           go_wp2_with fail
           go_roundw
           case rel=>exact ⟨j+1,by omega,by go_num,by rw [HS.out];go_num,hide ⟨⟨⟨(by with_reducible repeat (first|exact HJ.out.1.1.1|exact Up.refl _|apply Up.ext|apply Up.alloc|apply Up.drew|refine Up.setCell ?_ (by simp only;omega) _)),HJ.out.1.1.2.up (by repeat (first|with_reducible (first|exact Up.refl _|apply Up.plus)|apply Up.ext|apply Up.alloc|apply Up.drew|refine Up.setCell ?_ (by simp;try omega) _))⟩,HJ.out.1.2.up (by repeat (first|with_reducible (first|exact Up.refl _|apply Up.plus)|apply Up.ext|apply Up.alloc|apply Up.drew|refine Up.setCell ?_ (by simp;try omega) _))⟩,HJ.out.2.up (by repeat (first|with_reducible (first|exact Up.refl _|apply Up.plus)|apply Up.ext|apply Up.alloc|apply Up.drew|refine Up.setCell ?_ (by simp;try omega) _))⟩⟩
           case measure=>simp [intOf];omega
         · have HS:=hide (show cntT T ch k (j+1)=cntT T ch k j by rw [hsu];rfl)
           clear hsu hkj hmx
           go_wp2_with fail
           go_at_call 134
           obtain ⟨bk,hbk⟩:∃ g,g=wr.heap.size:=⟨_,rfl⟩
           try rw [← hbk]
           refine forgetK (fun V=>(((Up w V∧Box V w.heap.size #[.pointer (some ⟨PB,0,none⟩)] 105)∧PlanT V PB MB oa on oc cn T)∧Box V bi #[.int .i64 k] 3)∧Box V bk #[.int .i64 j] 3) ⟨⟨⟨⟨(by with_reducible repeat (first|exact HJ.out.1.1.1|exact Up.refl _|apply Up.ext|apply Up.alloc|apply Up.drew|refine Up.setCell ?_ (by simp only;omega) _)),HJ.out.1.1.2.up (by repeat (first|with_reducible (first|exact Up.refl _|apply Up.plus)|apply Up.ext|apply Up.alloc|apply Up.drew|refine Up.setCell ?_ (by simp;try omega) _))⟩,HJ.out.1.2.up (by repeat (first|with_reducible (first|exact Up.refl _|apply Up.plus)|apply Up.ext|apply Up.alloc|apply Up.drew|refine Up.setCell ?_ (by simp;try omega) _))⟩,HJ.out.2.up (by repeat (first|with_reducible (first|exact Up.refl _|apply Up.plus)|apply Up.ext|apply Up.alloc|apply Up.drew|refine Up.setCell ?_ (by simp;try omega) _))⟩,by rw [hbk];exact (by repeat (first|exact Box.mk rfl|(refine Box.mk ?_;simp;done)|apply Box.ext|apply Box.drew|apply Box.alloc|apply Box.two1|refine Box.other ?_ (by omega) _ _))⟩ ?_
           clear hbk HJ i00 li
           intro V2 h2
           have HJ:=hide h2.1
           refine (HC2.out V2 h2.1.1.1.1 w.heap.size bi bk h2.1.1.1.2 h2.1.2 h2.2).mono ?_
           clear h2
           intro q1
           go_wp2_with fail
           go_roundw
           case rel=>exact ⟨j+1,by omega,by go_num,by rw [HS.out],hide ⟨⟨⟨(by with_reducible repeat (first|exact HJ.out.1.1.1|exact Up.refl _|apply Up.ext|apply Up.alloc|apply Up.drew|refine Up.setCell ?_ (by simp only;omega) _)),HJ.out.1.1.2.up (by repeat (first|with_reducible (first|exact Up.refl _|apply Up.plus)|apply Up.ext|apply Up.alloc|apply Up.drew|refine Up.setCell ?_ (by simp;try omega) _))⟩,HJ.out.1.2.up (by repeat (first|with_reducible (first|exact Up.refl _|apply Up.plus)|apply Up.ext|apply Up.alloc|apply Up.drew|refine Up.setCell ?_ (by simp;try omega) _))⟩,HJ.out.2.up (by repeat (first|with_reducible (first|exact Up.refl _|apply Up.plus)|apply Up.ext|apply Up.alloc|apply Up.drew|refine Up.setCell ?_ (by simp;try omega) _))⟩⟩
           case measure=>simp [intOf];omega
     · have hjb:decide ((j:Int)<cn)=false:=by simp;omega
       have hjn:decide (j<cn)=false:=by simp;omega
       obtain rfl:j=cn:=by omega
       go_wp2_with fail
       go_roundw
       case rel=>exact ⟨k+1,by omega,by go_num,by rw [HM.out];go_num,hide HJ.out.1⟩
       case measure=>simp [intOf];omega
  · have hkb:decide ((k:Int)<cn)=false:=by simp;omega
    have hkn:decide (k<cn)=false:=by simp;omega
    obtain rfl:k=cn:=by omega
    go_wp2
    go_ret
    exact ⟨rfl,(by with_reducible repeat (first|exact HI.out.1.1|exact Up.refl _|apply Up.ext|apply Up.alloc|apply Up.drew|refine Up.setCell ?_ (by simp only;omega) _))⟩
end Go.Proofs.YteafglginnonnaaGreat
/- Package watch: what a choice proves at the worst. Conditions: what lies in memory. -/
namespace Go.Proofs.YteafglginnonnaaGreat
open Go.RowKit Go.Shelf
def worstT (T:Int→Int→VwD) (su:Int→Bool) (cn:Nat):Nat→List Int→Nat
 | 0,ch=>confT T ch cn cn
 | f+1,ch=>(List.range ch.length).foldl (fun m i=>if su (ch.getD i 0)=true then m else max m (worstT T su cn f (ch.eraseIdx i))) (confT T ch cn cn)
def wstepT (T:Int→Int→VwD) (su:Int→Bool) (cn f:Nat) (ch:List Int) (k:Nat):Nat :=
 (List.range k).foldl (fun m i=>if su (ch.getD i 0)=true then m else max m (worstT T su cn f (ch.eraseIdx i))) (confT T ch cn cn)
theorem worstT_zero (T:Int→Int→VwD) (su:Int→Bool) (cn:Nat) (ch:List Int):worstT T su cn 0 ch=confT T ch cn cn:=rfl
theorem wstepT_zero (T:Int→Int→VwD) (su:Int→Bool) (cn f:Nat) (ch:List Int):wstepT T su cn f ch 0=confT T ch cn cn:=rfl
theorem wstepT_all (T:Int→Int→VwD) (su:Int→Bool) (cn f:Nat) (ch:List Int):worstT T su cn (f+1) ch=wstepT T su cn f ch ch.length:=rfl
theorem wstepT_succ (T:Int→Int→VwD) (su:Int→Bool) (cn f:Nat) (ch:List Int) (k:Nat):wstepT T su cn f ch (k+1)=if su (ch.getD k 0)=true then wstepT T su cn f ch k else max (wstepT T su cn f ch k) (worstT T su cn f (ch.eraseIdx k)):=by
 unfold wstepT
 rw [List.range_succ,List.foldl_append]
 rfl
theorem worstT_le (T:Int→Int→VwD) (su:Int→Bool) (cn:Nat):∀ f ch,worstT T su cn f ch≤cn
 | 0,ch=>confT_le T ch cn cn
 | f+1,ch=>by
  rw [wstepT_all]
  generalize ch.length=k
  induction k with
  | zero=>rw [wstepT_zero];exact confT_le T ch cn cn
  | succ k ih =>
   rw [wstepT_succ]
   have:=worstT_le T su cn f (ch.eraseIdx k)
   split <;> omega
attribute [irreducible] wstepT worstT
def sureO (offers:List OffD) (o:Int):Bool:=((offers[o.toNat]?).map (·.sure)).getD false
abbrev DelC:Prop:=∀ {w w1:World},Up w w1→∀ {l:List Int} {g cap:Nat},Own TInt 3 w.heap.size w1 (.slice (some ⟨g,0,none⟩) l.length cap) l→∀ {i:Nat},i<l.length →
 Calls Tryz.prog 91 #[.slice (some ⟨g,0,none⟩) l.length cap,.int .i64 i,.int .i64 (i+1:Nat)] w1 fun e W=>e=.returned (.slice (some ⟨g,0,none⟩) (l.length - 1) cap)∧Up w W∧Own TInt 3 w.heap.size W (.slice (some ⟨g,0,none⟩) (l.length - 1) cap) (l.eraseIdx i)
theorem ixs (k:Nat):Value.int .i64 ((k:Int)+1)=.int .i64 ((k+1:Nat):Int):=by rw [Int.natCast_add];rfl
theorem mxs (a b:Nat):Value.int .i64 (max (a:Int) b)=.int .i64 ((max a b:Nat):Int):=by congr 1;omega
set_option maxRecDepth 100000 in
set_option maxHeartbeats 20000000 in
theorem wworst_any (HD:DelC) {PB MB:Nat} {oa:Option Addr} {on oc cn:Nat} {T:Int→Int→VwD} {offers:List OffD}:∀ (f:Nat),f≤1000→∀ {w:World} {KO K:Nat→Prop} {ca:Option Addr} {n c:Nat} {ch:List Int},
 PlanT w PB MB oa on oc cn T→Lst TOff KO w (.slice oa on oc) offers→Lst TInt K w (.slice ca n c) ch→(∀ o∈ch,0≤o∧o<on)→ch.length≤1000 →
 Gives Tryz.prog 48 #[.pointer (some ⟨PB,0,none⟩),.slice ca n c,.int .i64 f] w (.int .i64 (worstT T (sureO offers) cn f ch))
 | 0,hf,w,KO,K,ca,n,c,ch,hP,hO,hc,hr,hn=>by
  have HC:=hide (wconf_any hP hc hr)
  clear hP hO hc hr
  rw [worstT_zero]
  (unfold Gives;go_enter Tryz.func48,Tryz.ntmps48)
  go_wp2_with (go_at_call 90;refine (HC.out).mono ?_;intro _)
  go_ret
  exact ⟨rfl,(by repeat (first|with_reducible (first|exact Up.refl _|apply Up.plus)|apply Up.ext|apply Up.alloc|apply Up.drew|refine Up.setCell ?_ (by simp;try omega) _))⟩
 | f+1,hf,w,KO,K,ca,n,c,ch,hP,hO,hc,hr,hn=>by
  obtain ⟨m0,hm0⟩:∃ m0:Nat,m0=confT T ch cn cn:=⟨_,rfl⟩
  have hm0c:m0≤cn:=by rw [hm0];exact confT_le T ch cn cn
  have HC:=hide (wconf_any hP hc hr)
  rw [← hm0] at HC
  have HR:=hide (fun (W:World) (hu:Up w W) (g cap:Nat) (l:List Int) (hL:Lst TInt (fun _=>True) W (.slice (some ⟨g,0,none⟩) l.length cap) l) (h1:∀ o∈l,0≤o∧o<on) (h2:l.length≤1000) =>
   wworst_any HD f (by omega) (hP.up hu) (hO.up hu) hL h1 h2)
  have HA:=hide (And.intro hP (And.intro hO (And.intro hc hr)))
  have hcn:=(Ints.at hc).1
  have hon:=(Offs.at hO).1
  have hct:=hP.n
  have HN:=hide (And.intro hcn (And.intro hon hn))
  have hnn:n≤1000:=by omega
  clear hP hO hc hr hcn hon hn
  rw [wstepT_all]
  obtain ⟨R,hR⟩:∃ R:Nat,R=wstepT T (sureO offers) cn f ch ch.length:=⟨_,rfl⟩
  have HS0:=hide (show m0=wstepT T (sureO offers) cn f ch 0 by rw [wstepT_zero];exact hm0)
  rw [← hR]
  have HRR:=hide hR
  clear hR hm0
  have hf0:decide (((f:Nat):Int)+1=0)=false:=by simp;omega
  have hf1:¬ (((f:Nat):Int)+1=0):=by omega
  have hf2:(((f:Nat):Int)+1==0)=false:=by simp;omega
  (unfold Gives;go_enter Tryz.func48,Tryz.ntmps48)
  go_wp2_with (go_at_call 90;refine (HC.out).mono ?_;intro _)
  go_loopw [7,18] (fun s7 s18 wr=>∃ k m:Nat,k≤n∧m≤cn∧s18=.int .i64 k∧s7=.int .i64 m∧Hid (m=wstepT T (sureO offers) cn f ch k)∧Up w wr) (fun _ s18 _=>n - (intOf s18).toNat)
  case atStart=>exact ⟨0,m0,by omega,by omega,rfl,rfl,HS0,(by repeat (first|with_reducible (first|exact Up.refl _|apply Up.plus)|apply Up.ext|apply Up.alloc|apply Up.drew|refine Up.setCell ?_ (by simp;try omega) _))⟩
  case round =>
   obtain ⟨k,m,hk,hmc,rfl,rfl,HM,hu⟩:=hrel
   clear HS0 hm0c
   by_cases hlt:k<n
   · have hkb:decide ((k:Int)<n)=true:=by simp;omega
     have hkn:decide (k<n)=true:=by simp;omega
     obtain ⟨b,o,p,rfl,hKb,hbw,hp,hc0⟩:=(Ints.at (HA.out.2.2.1.keeps (hu.keeps K))).2.2 k hlt
     have hpm:=HA.out.2.2.2 p (List.mem_of_getElem? hp)
     obtain ⟨q,rfl⟩:=Int.eq_ofNat_of_zero_le hpm.1
     have hqn:q<on:=by omega
     obtain ⟨b2,o2,x,rfl,hKb2,hb2w,hx,-,-,-,-,-,-,-,-,-,-,hs0⟩:=(Offs.at (HA.out.2.1.keeps (hu.keeps KO))).2.2 q hqn
     have q0:=(HA.out.1.up hu).p.cell 0 rfl
     have lq:=(HA.out.1.up hu).p.lt
     have hg:ch.getD k 0=(q:Int):=by rw [List.getD,hp];rfl
     have hsu:sureO offers (ch.getD k 0)=x.sure:=by unfold sureO;rw [hg,Int.toNat_natCast,hx];rfl
     have hst:=wstepT_succ T (sureO offers) cn f ch k
     rw [hsu] at hst
     have HU:=hide hu
     have hkl:k<ch.length:=by rw [← HN.out.1];exact hlt
     rcases hxs:x.sure with _ | _
     · rw [hxs] at hs0 hst
       rw [if_neg (by decide)] at hst
       have h0:ch≠[]:=by intro e;subst e;simp at hkl
       have HCL:=hide (iclone_any (HA.out.2.2.1.keeps (hu.keeps K)) h0 (by have:=HN.out.2.2;omega))
       obtain ⟨m1,hm1⟩:∃ m1:Nat,m1=worstT T (sureO offers) cn f (ch.eraseIdx k):=⟨_,rfl⟩
       have hm1c:m1≤cn:=by rw [hm1];exact worstT_le T (sureO offers) cn f (ch.eraseIdx k)
       have HS:=hide (show max m m1=wstepT T (sureO offers) cn f ch (k+1) by rw [hst,hm1,HM.out])
       have HM1:=hide hm1
       have HL:=hide hkl
       clear hp hx hKb hKb2 hg hsu hst hxs hkl h0 hu hpm hm1 HM
       go_wp2_with fail
       go_at_call 92
       refine HCL.out.mono ?_
       rintro _ _ ⟨g,cap,px,rfl,ho1,rfl⟩
       have HD1:=hide (HD ((Up.refl wr).ext px) ho1 HL.out)
       clear ho1
       go_wp2_with fail
       go_at_call 91
       refine (show Calls Tryz.prog 91 _ _ _ from HD1.out).mono ?_
       rintro _ W2 ⟨rfl,hu2,ho2⟩
       have hel:(ch.eraseIdx k).length=ch.length - 1:=List.length_eraseIdx_of_lt HL.out
       have HR1:=HR.out W2 (HU.out.trans hu2) g cap (ch.eraseIdx k) (by rw [hel];exact (ho2.lies (by rw [hel];have:=HN.out.2.2;omega)).mono fun _ _ _=>trivial) (fun o ho=>HA.out.2.2.2 o (List.mem_of_mem_eraseIdx ho)) (by have:=HN.out.2.2;omega)
       rw [← HM1.out,hel] at HR1
       have HR2:=hide HR1
       have HU2:=hide (HU.out.trans hu2)
       clear HR1 hel ho2 hu2 HD1 HCL
       go_wp2_with (go_at_call 48;refine (HR2.out).mono ?_;intro _)
       go_roundw
       case rel =>
        exact ⟨k+1,max m m1,by omega,by omega,ixs k,mxs m m1,HS,HU2.out.ext _⟩
       case measure=>simp [intOf];omega
     · rw [hxs] at hs0 hst
       rw [if_pos rfl] at hst
       have HS:=hide (HM.out.trans hst.symm)
       clear hp hx hKb hKb2 hg hsu hst hxs hu hpm HM
       go_wp2_with fail
       go_roundw
       case rel=>exact ⟨k+1,m,by omega,hmc,ixs k,rfl,HS,HU.out⟩
       case measure=>simp [intOf];omega
   · have hkb:decide ((k:Int)<n)=false:=by simp;omega
     obtain rfl:k=n:=by omega
     have hRm:R=m:=by rw [HRR.out,HM.out,HN.out.1]
     clear HRR HM
     go_wp2_with fail
     go_ret
     exact ⟨by rw [hRm];rfl,hu⟩
end Go.Proofs.YteafglginnonnaaGreat
/- Package watch: the error of a choice. Conditions: what lies in memory. -/
namespace Go.Proofs.YteafglginnonnaaGreat
open Go.RowKit Go.Shelf
def chBad (on:Nat) (l:List Int) (i:Nat):Bool:=decide (l.getD i 0<0) || decide ((on:Int)≤l.getD i 0) || (decide (0<i)&&decide (l.getD i 0≤l.getD (i - 1) 0))
def chE (on:Nat) (l:List Int):Int:=if (List.range l.length).all fun i=>!chBad on l i then 0 else 7
theorem chE_bad {on:Nat} {l:List Int} {k:Nat} (hk:k<l.length) (h:chBad on l k=true):chE on l=7:=by
 unfold chE
 rw [if_neg]
 intro h1
 have:=List.all_eq_true.1 h1 k (List.mem_range.2 hk)
 rw [h] at this
 simp at this
theorem chE_ok {on:Nat} {l:List Int} (h:∀ i,i<l.length→chBad on l i=false):chE on l=0:=by
 unfold chE
 rw [if_pos]
 exact List.all_eq_true.2 fun i hi=>by rw [h i (List.mem_range.1 hi)];rfl
set_option maxRecDepth 100000 in
set_option maxHeartbeats 8000000 in
theorem wchk_any {w:World} {oa:Option Addr} {on oc:Nat} (hon:on≤1000000) {K:Nat→Prop} {a:Option Addr} {n c:Nat} {l:List Int} (hl:Lst TInt K w (.slice a n c) l) :
 Gives Tryz.prog 46 #[.slice oa on oc,.slice a n c] w (.int .i64 (chE on l)):=by
 have hn:=(Ints.at hl).1
 have hm:=(Ints.at hl).2.1
 have HF:=hide hl
 have HN:=hide hn
 clear hl hn
 (unfold Gives;go_enter Tryz.func46,Tryz.ntmps46)
 go_wp2
 go_loopw [9] (fun s9 wr=>∃ k:Nat,k≤n∧s9=.int .i64 k∧Up w wr∧Hid (∀ i,i<k→chBad on l i=false)) (fun s9 _=>n - (intOf s9).toNat)
 case atStart=>exact ⟨0,by omega,rfl,Up.refl _,hide (fun i hi=>by omega)⟩
 case round =>
  obtain ⟨k,hk,rfl,hu,hb⟩:=hrel
  by_cases hlt:k<n
  · obtain ⟨b,o,p,rfl,hKb,hbw,hp,hc0⟩:=(Ints.at (HF.out.keeps (hu.keeps K))).2.2 k hlt
    have hkb:decide ((k:Int)<n)=true:=by simp;omega
    have HP:=hide (show l.getD k 0=p by rw [List.getD,hp];rfl)
    have HU:=hide hu
    by_cases h1:p<0
    · have d1:decide (p<0)=true:=decide_eq_true h1
      have HB:=hide (chE_bad (on:=on) (HN.out▸hlt) (show chBad on l k=true by unfold chBad;rw [HP.out];simp [h1]))
      clear hp hu hKb
      go_wp2
      go_ret
      exact ⟨by rw [HB.out];rfl,HU.out⟩
    have d1:decide (p<0)=false:=decide_eq_false h1
    by_cases h2:(on:Int)≤p
    · have d2:decide ((on:Int)≤p)=true:=decide_eq_true h2
      have HB:=hide (chE_bad (on:=on) (HN.out▸hlt) (show chBad on l k=true by unfold chBad;rw [HP.out];simp [h2]))
      clear hp hu hKb
      go_wp2
      go_ret
      exact ⟨by rw [HB.out];rfl,HU.out⟩
    have d2:decide ((on:Int)≤p)=false:=decide_eq_false h2
    by_cases h3:k=0
    · have h30:¬ (0<k):=by omega
      have h31:¬ ((0:Int)<k):=by omega
      have HB:=hide (show chBad on l k=false by unfold chBad;rw [HP.out];simp [h3,h1];omega)
      clear hp hu hKb h3
      go_wp2
      refine ⟨⟨k+1,by omega,by go_num,HU.out,hide fun i hi=>?_⟩,by simp [intOf];omega⟩
      rcases Nat.lt_or_ge i k with h | h
      · exact hb.out i h
      · rw [show i=k by omega]
        exact HB.out
    have d3:decide ((0:Int)<k)=true:=decide_eq_true (by omega)
    have d3n:decide (0<k)=true:=decide_eq_true (by omega)
    have hkn:decide (k<n)=true:=decide_eq_true hlt
    obtain ⟨b',o',q,hbo,hKq,hbq,hq,hq0⟩:=(Ints.at (HF.out.keeps (hu.keeps K))).2.2 (k - 1) (by omega)
    simp at hbo
    obtain ⟨rfl,rfl⟩:=hbo
    have HQ:=hide (show l.getD (k - 1) 0=q by rw [List.getD,hq];rfl)
    have e1:((k:Int) - 1).toNat=k - 1:=by omega
    by_cases h4:p≤q
    · have d4:decide (p≤q)=true:=decide_eq_true h4
      have HB:=hide (chE_bad (on:=on) (HN.out▸hlt) (show chBad on l k=true by unfold chBad;rw [HP.out,HQ.out];simp [h4];omega))
      clear hp hu hKb hKq hq
      go_wp2
      go_ret
      exact ⟨by rw [HB.out];rfl,HU.out⟩
    · have d4:decide (p≤q)=false:=decide_eq_false h4
      have HB:=hide (show chBad on l k=false by unfold chBad;rw [HP.out,HQ.out];simp [h1,h4];omega)
      clear hp hu hKb hKq hq
      go_wp2
      refine ⟨⟨k+1,by omega,by go_num,HU.out,hide fun i hi=>?_⟩,by simp [intOf];omega⟩
      rcases Nat.lt_or_ge i k with h | h
      · exact hb.out i h
      · rw [show i=k by omega]
        exact HB.out
  · have hkb:decide ((k:Int)<n)=false:=by simp;omega
    obtain rfl:k=n:=by omega
    go_wp2
    go_ret
    exact ⟨by rw [chE_ok (by rw [← HN.out];exact hb.out)];rfl,hu⟩
end Go.Proofs.YteafglginnonnaaGreat
/- Package watch: the views of a checked watch, as a table; what a choice that is right means. Conditions: a valid watch. -/
namespace Go.Proofs.YteafglginnonnaaGreat
open Go.RowKit Go.Shelf
def tabV (s:SkyD) (d:DriftD) (t:Int) (set:List BoxD) (offers:List OffD) (o k:Int):VwD :=
 match offers[o.toNat]? with
 | none=>(false,false,0,0)
 | some x=>match (cellsO s d t set x)[k.toNat]? with
  | none=>(false,false,0,0)
  | some b=>viewK (kndOf s x) (cellA b)
theorem rowE_at {s:SkyD} {d:DriftD} {t:Int} {set:List BoxD} {i:Nat} {o:OffD} {q:Nat} {x:Ent} (h:(rowE s d t set i o)[q]?=some x):∃ b,(cellsO s d t set o)[q]?=some b∧x=((i:Int),(q:Int),viewK (kndOf s o) (cellA b)):=by
 unfold rowE at h
 rw [List.getElem?_mapIdx] at h
 obtain ⟨b,hb,rfl⟩:=Option.map_eq_some_iff.1 h
 exact ⟨b,hb,rfl⟩
theorem tabE_mem {s:SkyD} {d:DriftD} {t:Int} {set:List BoxD} {offers:List OffD} {x:Ent} (hx:x∈tabE s d t set offers):∃ (i:Nat) (o:OffD) (q:Nat) (b:BoxD),offers[i]?=some o∧(cellsO s d t set o)[q]?=some b∧x=((i:Int),(q:Int),viewK (kndOf s o) (cellA b)):=by
 unfold tabE at hx
 obtain ⟨row,hrow,hx⟩:=List.mem_flatten.1 hx
 obtain ⟨i,hi,rfl⟩:=List.getElem_of_mem hrow
 rw [List.getElem_mapIdx] at hx
 obtain ⟨q,hq,hxq⟩:=List.getElem_of_mem hx
 obtain ⟨b,hb,e⟩:=rowE_at (x:=x) (q:=q) (by rw [List.getElem?_eq_getElem hq,hxq])
 exact ⟨i,_,q,b,List.getElem?_eq_getElem (by simpa using hi),hb,e⟩
theorem mem_tabE {s:SkyD} {d:DriftD} {t:Int} {set:List BoxD} {offers:List OffD} {i:Nat} {o:OffD} {q:Nat} {b:BoxD} (ho:offers[i]?=some o) (hb:(cellsO s d t set o)[q]?=some b):((i:Int),(q:Int),viewK (kndOf s o) (cellA b))∈tabE s d t set offers:=by
 unfold tabE
 refine List.mem_flatten.2 ⟨rowE s d t set i o,?_,?_⟩
 · exact List.mem_of_getElem? (i:=i) (by rw [List.getElem?_mapIdx,ho];rfl)
 · refine List.mem_of_getElem? (i:=q) ?_
   unfold rowE
   rw [List.getElem?_mapIdx,hb]
   rfl
theorem tabV_at {s:SkyD} {d:DriftD} {t:Int} {set:List BoxD} {offers:List OffD} {i:Nat} {o:OffD} {q:Nat} {b:BoxD} (ho:offers[i]?=some o) (hb:(cellsO s d t set o)[q]?=some b):tabV s d t set offers i q=viewK (kndOf s o) (cellA b):=by
 unfold tabV
 rw [Int.toNat_natCast,ho]
 dsimp only
 rw [Int.toNat_natCast,hb]
theorem planT_of {s:SkyD} {d:DriftD} {t:Int} {set:List BoxD} {offers:List OffD} (hW:watchE s d t set offers=0) {W:World} {PB MB:Nat} {oa:Option Addr} {on oc bn:Nat} (hb:Box W PB #[.slice oa on oc,.int .i64 bn,.map (some MB)] 143) (hm:MapV W MB (tabE s d t set offers)) (hon:on=offers.length) (hbn:bn=set.length) :
 PlanT W PB MB oa on oc bn (tabV s d t set offers):=by
 obtain ⟨_,_,⟨h1,h2⟩,h3⟩:=watchE_zero hW
 refine ⟨hb,⟨_,hm,?_,?_⟩,by omega⟩
 · intro x hx
   obtain ⟨i,o,q,b,ho,hq,rfl⟩:=tabE_mem hx
   have i1:=(List.getElem?_eq_some_iff.1 ho).1
   have q1:=(List.getElem?_eq_some_iff.1 hq).1
   have q2:=(offW_zero (h3 o (List.mem_of_getElem? ho))).2.2.2.2
   dsimp only
   unfold I64
   omega
 · intro i k i0 i1 k0 k1
   obtain ⟨i,rfl⟩:=Int.eq_ofNat_of_zero_le i0
   obtain ⟨k,rfl⟩:=Int.eq_ofNat_of_zero_le k0
   obtain ⟨o,ho⟩:∃ o,offers[i]?=some o:=⟨_,List.getElem?_eq_getElem (by omega)⟩
   have q2:=(offW_zero (h3 o (List.mem_of_getElem? ho))).2.2.2.2
   obtain ⟨b,hb⟩:∃ b,(cellsO s d t set o)[k]?=some b:=⟨_,List.getElem?_eq_getElem (by omega)⟩
   refine ⟨?_,?_⟩
   · have:=mem_tabE ho hb
     rw [← tabV_at ho hb] at this
     exact this
   · intro x hx e1 e2
     obtain ⟨i',o',q',b',ho',hq',rfl⟩:=tabE_mem hx
     dsimp only at e1 e2 ⊢
     obtain rfl:i'=i:=by omega
     obtain rfl:q'=k:=by omega
     rw [ho] at ho'
     cases ho'
     rw [hb] at hq'
     cases hq'
     rw [tabV_at ho hb]
theorem chE_two (on:Nat) (l:List Int):chE on l=0∨chE on l=7:=by
 unfold chE
 split
 · exact .inl rfl
 · exact .inr rfl
theorem chE_good {on:Nat} {l:List Int} (h:chE on l=0):∀ i,i<l.length→chBad on l i=false:=fun i hi=>by
 rcases hb:chBad on l i with _ | _
 · rfl
 · rw [chE_bad hi hb] at h;cases h
theorem chBad_no {on:Nat} {l:List Int} {i:Nat} (h:chBad on l i=false):(0≤l.getD i 0∧l.getD i 0<on)∧(0<i→l.getD (i - 1) 0<l.getD i 0):=by
 unfold chBad at h
 simp only [Bool.or_eq_false_iff,Bool.and_eq_false_iff,decide_eq_false_iff_not] at h
 omega
theorem chE_ge {on:Nat} {l:List Int} (h:chE on l=0):∀ i:Nat,i<l.length→(i:Int)≤l.getD i 0
 | 0,hi=>(chBad_no (chE_good h 0 hi)).1.1
 | i+1,hi=>by
  have h1:=chE_ge h i (by omega)
  have h2:=(chBad_no (chE_good h (i+1) hi)).2 (by omega)
  rw [Nat.add_sub_cancel] at h2
  omega
theorem chE_zero {on:Nat} {l:List Int} (h:chE on l=0):(∀ o∈l,0≤o∧o<on)∧l.length≤on:=by
 refine ⟨fun o ho=>?_,?_⟩
 · obtain ⟨i,hi,rfl⟩:=List.getElem_of_mem ho
   have:=(chBad_no (chE_good h i hi)).1
   rw [List.getD_eq_getElem?_getD,List.getElem?_eq_getElem hi] at this
   exact this
 · rcases Nat.eq_zero_or_pos l.length with h0 | h0
   · omega
   · have h1:=chE_ge h (l.length - 1) (by omega)
     have h2:=(chBad_no (chE_good h (l.length - 1) (by omega))).1.2
     omega
set_option maxRecDepth 100000 in
set_option maxHeartbeats 8000000 in
theorem plan_any {K:Nat→Prop} {w:World} {a sa ca:Option Addr} {n c sn sc cn cc:Nat} {s:SkyD} (hL:SkyL K w a n c sa sn sc ca cn cc s) (d:DriftD) (t:Int) {KB:Nat→Prop} {ba:Option Addr} {bn bc:Nat} {set:List BoxD} (hB:Boxes KB w (.slice ba bn bc) set) {KO:Nat→Prop} {oa:Option Addr} {on oc:Nat} {offers:List OffD} (hO:Lst TOff KO w (.slice oa on oc) offers) (hW:watchE s d t set offers=0):Calls Tryz.prog 47 #[.agg #[.slice a n c,.int .i64 s.home,.slice sa sn sc,.slice ca cn cc],.agg #[.int .i64 (d.l.1),.int .i64 (d.l.2),.int .i64 (d.h.1),.int .i64 (d.h.2),.int .i64 (d.g)],.int .i64 t,.slice ba bn bc,.slice oa on oc] w fun e W=>∃ (PB MB:Nat) (p:Ext),e=.returned (.pointer (some ⟨PB,0,none⟩))∧W=ext w p∧PlanT W PB MB oa on oc bn (tabV s d t set offers):=by
 refine (newplan_any hL d t hB hO hW).mono ?_
 rintro e W ⟨p,h1,h2,h3,h4⟩
 exact ⟨_,_,p,h1,h2,planT_of hW h3 h4 (Offs.at hO).1 (Boxes.at hB).1⟩
def worstV (s:SkyD) (d:DriftD) (t:Int) (set:List BoxD) (offers:List OffD) (ch:List Int) (f:Int):Int×Int :=
 if watchE s d t set offers=0 then
  (if withinB f 0 3=true then
   (if chE offers.length ch=0 then (((worstT (tabV s d t set offers) (sureO offers) set.length f.toNat ch:Nat):Int),0) else (0,7))
   else (0,2))
 else (0,watchE s d t set offers)
end Go.Proofs.YteafglginnonnaaGreat
/- Package watch: Worst. Conditions: what lies in memory. -/
namespace Go.Proofs.YteafglginnonnaaGreat
open Go.RowKit Go.Shelf
set_option maxRecDepth 100000 in
set_option maxHeartbeats 20000000 in
theorem wWorst_any (HD:DelC) {K:Nat→Prop} {w:World} {a sa ca:Option Addr} {n c sn sc cn cc:Nat} {s:SkyD} (hL:SkyL K w a n c sa sn sc ca cn cc s) (d:DriftD) (t:Int) {KB:Nat→Prop} {ba:Option Addr} {bn bc:Nat} {set:List BoxD} (hB:Boxes KB w (.slice ba bn bc) set) {KO:Nat→Prop} {oa:Option Addr} {on oc:Nat} {offers:List OffD} (hO:Lst TOff KO w (.slice oa on oc) offers) {KI:Nat→Prop} {ia:Option Addr} {inn ic:Nat} {ch:List Int} (hI:Lst TInt KI w (.slice ia inn ic) ch) (f:Int):Gives Tryz.prog 13 #[.agg #[.slice a n c,.int .i64 s.home,.slice sa sn sc,.slice ca cn cc],.agg #[.int .i64 (d.l.1),.int .i64 (d.l.2),.int .i64 (d.h.1),.int .i64 (d.h.2),.int .i64 (d.g)],.int .i64 t,.slice ba bn bc,.slice oa on oc,.slice ia inn ic,.int .i64 f] w (.tuple #[.int .i64 (worstV s d t set offers ch f).1,.int .i64 (worstV s d t set offers ch f).2]):=by
 have HC:=hide (fun W (hu:Up w W)=>wwatch_any (hL.up hu) d t (hB.keeps (hu.keeps KB)) (hO.up hu))
 have HI:=hide (fun W=>wwithin_any f 0 3 W)
 have hon:=(Offs.at hO).1
 have hbn:=(Boxes.at hB).1
 have HK:=hide (fun (h:watchE s d t set offers=0) W (hu:Up w W)=>wchk_any (oa:=oa) (oc:=oc) (on:=on) (by have:=(watchE_zero h).2.2.1;omega) (hI.up hu))
 have HP:=hide (fun (h:watchE s d t set offers=0) W (hu:Up w W)=>plan_any (hL.up hu) d t (hB.keeps (hu.keeps KB)) (hO.up hu) h)
 have HW:=hide (fun (h:withinB f 0 3=true) (h':chE on ch=0) (h'':watchE s d t set offers=0) (W:World) (hu:Up w W) (PB MB:Nat) (hp:PlanT W PB MB oa on oc bn (tabV s d t set offers)) =>
  show Gives Tryz.prog 48 #[.pointer (some ⟨PB,0,none⟩),.slice ia inn ic,.int .i64 f] W (.int .i64 (worstT (tabV s d t set offers) (sureO offers) bn f.toNat ch)) by
   have hf:0≤f∧f≤3:=by simpa [withinB] using h
   obtain ⟨f,rfl⟩:=Int.eq_ofNat_of_zero_le hf.1
   have:=(watchE_zero h'').2.2.1
   have h3:=chE_zero h'
   exact wworst_any HD f (by omega) hp (hO.up hu) (hI.up hu) h3.1 (by omega))
 unfold worstV
 rw [← hbn,← hon]
 have HE:=hide (chE_two on ch)
 generalize worstT (tabV s d t set offers) (sureO offers) bn f.toNat ch=R at *
 generalize tabV s d t set offers=TV at *
 generalize watchE s d t set offers=E at *
 generalize chE on ch=CE at *
 generalize hIn:withinB f 0 3=IN at *
 generalize s.home=home at *
 clear hL hB hO hI hon hbn hIn
 by_cases h0:E=0
 rotate_left
 · rw [if_neg h0]
   have heb:(E != 0)=true:=by simpa using h0
   clear h0 HP HK HW
   (unfold Gives;go_enter Tryz.func13,Tryz.ntmps13)
   go_wp2_with fail
   go_at_call 10
   refine forgetK (fun wr=>Up w wr∧Box wr w.heap.size #[.slice a n c,.int .i64 home,.slice sa sn sc,.slice ca cn cc] 29∧Box wr (w.heap.size+1) #[.int .i64 (d.l.1),.int .i64 (d.l.2),.int .i64 (d.h.1),.int .i64 (d.h.2),.int .i64 (d.g)] 33) ⟨(by repeat (first|with_reducible (first|exact Up.refl _|apply Up.plus)|apply Up.ext|apply Up.alloc|apply Up.drew|refine Up.setCell ?_ (by simp;try omega) _)),(by repeat (first|exact Box.mk rfl|(refine Box.mk ?_;simp;done)|apply Box.ext|apply Box.drew|apply Box.alloc|apply Box.two1|refine Box.other ?_ (by omega) _ _)),(by repeat (first|exact Box.mk rfl|(refine Box.mk ?_;simp;done)|apply Box.ext|apply Box.drew|apply Box.alloc|apply Box.two1|refine Box.other ?_ (by omega) _ _))⟩ ?_
   rintro V0 ⟨hu,b0,b1⟩
   have HB0:=hide (And.intro hu (And.intro b0 b1))
   clear hu b0 b1
   have s0:=(HB0.out.2.1).cell 0 rfl
   have s1:=(HB0.out.2.1).cell 1 rfl
   have s2:=(HB0.out.2.1).cell 2 rfl
   have s3:=(HB0.out.2.1).cell 3 rfl
   have ls:=(HB0.out.2.1).lt
   have dd0:=(HB0.out.2.2).cell 0 rfl
   have dd1:=(HB0.out.2.2).cell 1 rfl
   have dd2:=(HB0.out.2.2).cell 2 rfl
   have dd3:=(HB0.out.2.2).cell 3 rfl
   have dd4:=(HB0.out.2.2).cell 4 rfl
   have ldd:=(HB0.out.2.2).lt
   refine (HC.out _ (by with_reducible repeat (first|exact HB0.out.1|exact Up.refl _|apply Up.ext|apply Up.alloc|apply Up.drew|refine Up.setCell ?_ (by simp only;omega) _))).mono ?_
   intro p1
   go_wp2
   refine bodyPost_give (by with_reducible repeat (first|exact HB0.out.1|exact Up.refl _|apply Up.ext|apply Up.alloc|apply Up.drew|refine Up.setCell ?_ (by simp only;omega) _)) rfl ⟨_,(by simp [results,Tryz.results13,go_sem];rfl),?_⟩
   rfl
 rw [if_pos h0]
 subst h0
 rcases IN with _ | _
 · rw [if_neg (by decide)]
   clear HP HK HW
   (unfold Gives;go_enter Tryz.func13,Tryz.ntmps13)
   go_wp2_with fail
   go_at_call 10
   refine forgetK (fun wr=>Up w wr∧Box wr w.heap.size #[.slice a n c,.int .i64 home,.slice sa sn sc,.slice ca cn cc] 29∧Box wr (w.heap.size+1) #[.int .i64 (d.l.1),.int .i64 (d.l.2),.int .i64 (d.h.1),.int .i64 (d.h.2),.int .i64 (d.g)] 33) ⟨(by repeat (first|with_reducible (first|exact Up.refl _|apply Up.plus)|apply Up.ext|apply Up.alloc|apply Up.drew|refine Up.setCell ?_ (by simp;try omega) _)),(by repeat (first|exact Box.mk rfl|(refine Box.mk ?_;simp;done)|apply Box.ext|apply Box.drew|apply Box.alloc|apply Box.two1|refine Box.other ?_ (by omega) _ _)),(by repeat (first|exact Box.mk rfl|(refine Box.mk ?_;simp;done)|apply Box.ext|apply Box.drew|apply Box.alloc|apply Box.two1|refine Box.other ?_ (by omega) _ _))⟩ ?_
   rintro V0 ⟨hu,b0,b1⟩
   have HB0:=hide (And.intro hu (And.intro b0 b1))
   clear hu b0 b1
   have s0:=(HB0.out.2.1).cell 0 rfl
   have s1:=(HB0.out.2.1).cell 1 rfl
   have s2:=(HB0.out.2.1).cell 2 rfl
   have s3:=(HB0.out.2.1).cell 3 rfl
   have ls:=(HB0.out.2.1).lt
   have dd0:=(HB0.out.2.2).cell 0 rfl
   have dd1:=(HB0.out.2.2).cell 1 rfl
   have dd2:=(HB0.out.2.2).cell 2 rfl
   have dd3:=(HB0.out.2.2).cell 3 rfl
   have dd4:=(HB0.out.2.2).cell 4 rfl
   have ldd:=(HB0.out.2.2).lt
   refine (HC.out _ (by with_reducible repeat (first|exact HB0.out.1|exact Up.refl _|apply Up.ext|apply Up.alloc|apply Up.drew|refine Up.setCell ?_ (by simp only;omega) _))).mono ?_
   intro p1
   go_wp2_with (go_at_call 45;refine (HI.out _).mono ?_;intro _)
   refine bodyPost_give (by with_reducible repeat (first|exact HB0.out.1|exact Up.refl _|apply Up.ext|apply Up.alloc|apply Up.drew|refine Up.setCell ?_ (by simp only;omega) _)) rfl ⟨_,(by simp [results,Tryz.results13,go_sem];rfl),?_⟩
   rfl
 rw [if_pos rfl]
 have HK2:=hide (HK.out rfl)
 clear HK
 by_cases h1:CE=0
 rotate_left
 · rw [if_neg h1]
   obtain rfl:CE=7:=by rcases HE.out with h | h;exact absurd h h1;exact h
   clear HP HW h1
   (unfold Gives;go_enter Tryz.func13,Tryz.ntmps13)
   go_wp2_with fail
   go_at_call 10
   refine forgetK (fun wr=>Up w wr∧Box wr w.heap.size #[.slice a n c,.int .i64 home,.slice sa sn sc,.slice ca cn cc] 29∧Box wr (w.heap.size+1) #[.int .i64 (d.l.1),.int .i64 (d.l.2),.int .i64 (d.h.1),.int .i64 (d.h.2),.int .i64 (d.g)] 33) ⟨(by repeat (first|with_reducible (first|exact Up.refl _|apply Up.plus)|apply Up.ext|apply Up.alloc|apply Up.drew|refine Up.setCell ?_ (by simp;try omega) _)),(by repeat (first|exact Box.mk rfl|(refine Box.mk ?_;simp;done)|apply Box.ext|apply Box.drew|apply Box.alloc|apply Box.two1|refine Box.other ?_ (by omega) _ _)),(by repeat (first|exact Box.mk rfl|(refine Box.mk ?_;simp;done)|apply Box.ext|apply Box.drew|apply Box.alloc|apply Box.two1|refine Box.other ?_ (by omega) _ _))⟩ ?_
   rintro V0 ⟨hu,b0,b1⟩
   have HB0:=hide (And.intro hu (And.intro b0 b1))
   clear hu b0 b1
   have s0:=(HB0.out.2.1).cell 0 rfl
   have s1:=(HB0.out.2.1).cell 1 rfl
   have s2:=(HB0.out.2.1).cell 2 rfl
   have s3:=(HB0.out.2.1).cell 3 rfl
   have ls:=(HB0.out.2.1).lt
   have dd0:=(HB0.out.2.2).cell 0 rfl
   have dd1:=(HB0.out.2.2).cell 1 rfl
   have dd2:=(HB0.out.2.2).cell 2 rfl
   have dd3:=(HB0.out.2.2).cell 3 rfl
   have dd4:=(HB0.out.2.2).cell 4 rfl
   have ldd:=(HB0.out.2.2).lt
   refine (HC.out _ (by with_reducible repeat (first|exact HB0.out.1|exact Up.refl _|apply Up.ext|apply Up.alloc|apply Up.drew|refine Up.setCell ?_ (by simp only;omega) _))).mono ?_
   intro p1
   go_wp2_with (first|(go_at_call 45;refine (HI.out _).mono ?_;intro _)|(go_at_call 46;refine (HK2.out _ (by with_reducible repeat (first|exact HB0.out.1|exact Up.refl _|apply Up.ext|apply Up.alloc|apply Up.drew|refine Up.setCell ?_ (by simp only;omega) _))).mono ?_;intro _))
   refine bodyPost_give (by with_reducible repeat (first|exact HB0.out.1|exact Up.refl _|apply Up.ext|apply Up.alloc|apply Up.drew|refine Up.setCell ?_ (by simp only;omega) _)) rfl ⟨_,(by simp [results,Tryz.results13,go_sem];rfl),?_⟩
   rfl
 rw [if_pos h1]
 subst h1
 have HP2:=hide (HP.out rfl)
 have HW2:=hide (HW.out rfl rfl rfl)
 clear HP HW HE
 (unfold Gives;go_enter Tryz.func13,Tryz.ntmps13)
 go_wp2_with fail
 go_at_call 10
 refine forgetK (fun wr=>Up w wr∧Box wr w.heap.size #[.slice a n c,.int .i64 home,.slice sa sn sc,.slice ca cn cc] 29∧Box wr (w.heap.size+1) #[.int .i64 (d.l.1),.int .i64 (d.l.2),.int .i64 (d.h.1),.int .i64 (d.h.2),.int .i64 (d.g)] 33) ⟨(by repeat (first|with_reducible (first|exact Up.refl _|apply Up.plus)|apply Up.ext|apply Up.alloc|apply Up.drew|refine Up.setCell ?_ (by simp;try omega) _)),(by repeat (first|exact Box.mk rfl|(refine Box.mk ?_;simp;done)|apply Box.ext|apply Box.drew|apply Box.alloc|apply Box.two1|refine Box.other ?_ (by omega) _ _)),(by repeat (first|exact Box.mk rfl|(refine Box.mk ?_;simp;done)|apply Box.ext|apply Box.drew|apply Box.alloc|apply Box.two1|refine Box.other ?_ (by omega) _ _))⟩ ?_
 rintro V0 ⟨hu,b0,b1⟩
 have HB0:=hide (And.intro hu (And.intro b0 b1))
 clear hu b0 b1
 have s0:=(HB0.out.2.1).cell 0 rfl
 have s1:=(HB0.out.2.1).cell 1 rfl
 have s2:=(HB0.out.2.1).cell 2 rfl
 have s3:=(HB0.out.2.1).cell 3 rfl
 have ls:=(HB0.out.2.1).lt
 have dd0:=(HB0.out.2.2).cell 0 rfl
 have dd1:=(HB0.out.2.2).cell 1 rfl
 have dd2:=(HB0.out.2.2).cell 2 rfl
 have dd3:=(HB0.out.2.2).cell 3 rfl
 have dd4:=(HB0.out.2.2).cell 4 rfl
 have ldd:=(HB0.out.2.2).lt
 refine (HC.out _ (by with_reducible repeat (first|exact HB0.out.1|exact Up.refl _|apply Up.ext|apply Up.alloc|apply Up.drew|refine Up.setCell ?_ (by simp only;omega) _))).mono ?_
 intro p1
 go_wp2_with (first|(go_at_call 45;refine (HI.out _).mono ?_;intro _)|(go_at_call 46;refine (HK2.out _ (by with_reducible repeat (first|exact HB0.out.1|exact Up.refl _|apply Up.ext|apply Up.alloc|apply Up.drew|refine Up.setCell ?_ (by simp only;omega) _))).mono ?_;intro _))
 go_at_call 47
 refine (HP2.out _ (by with_reducible repeat (first|exact HB0.out.1|exact Up.refl _|apply Up.ext|apply Up.alloc|apply Up.drew|refine Up.setCell ?_ (by simp only;omega) _))).mono ?_
 rintro _ _ ⟨PB,MB,q,rfl,rfl,hp⟩
 rw [ext_ext] at hp
 have HW3:=hide (HW2.out _ (by with_reducible repeat (first|exact HB0.out.1|exact Up.refl _|apply Up.ext|apply Up.alloc|apply Up.drew|refine Up.setCell ?_ (by simp only;omega) _)) PB MB hp)
 clear hp
 go_wp2_with (go_at_call 48;refine (HW3.out).mono ?_;intro _)
 refine bodyPost_give (by with_reducible repeat (first|exact HB0.out.1|exact Up.refl _|apply Up.ext|apply Up.alloc|apply Up.drew|refine Up.setCell ?_ (by simp only;omega) _)) rfl ⟨_,(by simp [results,Tryz.results13,go_sem];rfl),?_⟩
 rfl
end Go.Proofs.YteafglginnonnaaGreat
/- The offers of a set of bits. Conditions: few offers. -/
namespace Go.Proofs.YteafglginnonnaaGreat
open Go.RowKit Go.Shelf
def bitB (x:Int) (i:Nat):Bool:=decide (x / 2^i % 2=1)
def chL (x:Int) (k:Nat):List Int:=((List.range k).filter (bitB x)).map fun (i:Nat)=>(i:Int)
theorem chL_yes {x:Int} {k:Nat} (h:bitB x k=true):chL x (k+1)=chL x k++[(k:Int)]:=by
 unfold chL
 rw [List.range_succ,List.filter_append,List.map_append]
 simp [h]
theorem chL_no {x:Int} {k:Nat} (h:bitB x k=false):chL x (k+1)=chL x k:=by
 unfold chL
 rw [List.range_succ,List.filter_append,List.map_append]
 simp [h]
theorem chL_le (x:Int) (k:Nat):(chL x k).length≤k:=by
 unfold chL
 rw [List.length_map]
 have:=List.length_filter_le (bitB x) (List.range k)
 simpa using this
set_option maxRecDepth 100000 in
set_option maxHeartbeats 8000000 in
theorem chosen_any (x:Int) {n:Nat} (hn:n≤60) (w:World):Calls Tryz.prog 14 #[.int .i64 x,.int .i64 n] w fun e W=>∃ (a:Option Addr) (m c:Nat) (p:Ext),e=.returned (.slice a m c)∧Lst TInt (fun q=>w.heap.size≤q) W (.slice a m c) (chL x n)∧W=ext w p:=by
 go_enter Tryz.func14,Tryz.ntmps14
 go_wp2_with fail
 go_loopw [5,6] (fun s5 s6 wr=>∃ k:Nat,k≤n∧s6=.int .i64 k∧Hid (Up w wr∧Own TInt 3 w.heap.size wr s5 (chL x k))) (fun _ s6 _=>n - (intOf s6).toNat)
 case atStart=>exact ⟨0,by omega,rfl,hide ⟨(by repeat (first|with_reducible (first|exact Up.refl _|apply Up.plus)|apply Up.ext|apply Up.alloc|apply Up.drew|refine Up.setCell ?_ (by simp;try omega) _)),Own.nil _ _ _ _⟩⟩
 case round =>
  obtain ⟨k,hk,rfl,HI⟩:=hrel
  by_cases hlt:k<n
  · have hkb:decide ((k:Int)<n)=true:=by simp;omega
    have hkn:decide (k<n)=true:=by simp;omega
    have e1:=and_one_i64 (x / 2^k)
    have hyes:=chL_yes (x:=x) (k:=k)
    have hno:=chL_no (x:=x) (k:=k)
    unfold bitB at hyes hno
    have hle:=chL_le x k
    obtain ⟨va,vc,hv⟩:=HI.out.2.form
    generalize x / 2^k % 2=m at *
    have HYN:=hide (And.intro hyes hno)
    clear hyes hno
    by_cases hm:m=1
    · have hm1:(m==1)=true:=by simpa using hm
      have HY:=hide (HYN.out.1 (decide_eq_true hm))
      clear hm HYN
      go_wp2_with (at_builtin;with_reducible refine stopA rfl ?_)
      refine hide ?_
      refine wpList_pushG elem_int rfl (.tmp 18) (.tmp 20) rfl (w0:=w) (base:=w.heap.size) (HI.out.1.trans (by repeat (first|with_reducible (first|exact Up.refl _|apply Up.plus)|apply Up.ext|apply Up.alloc|apply Up.drew|refine Up.setCell ?_ (by simp;try omega) _))) (Nat.le_refl _) (Nat.le_trans HI.out.1.below.size (by simp)) rfl (HI.out.2.up (by repeat (first|with_reducible (first|exact Up.refl _|apply Up.plus)|apply Up.ext|apply Up.alloc|apply Up.drew|refine Up.setCell ?_ (by simp;try omega) _))) (by omega) (by decide) (k:Int) rfl (Box.mk (by simp)) ?_
      intro g cap W' hu ho _
      have HJ:=hide (show Up w W'∧Own TInt 3 w.heap.size W' (.slice (some ⟨g,0,none⟩) ((chL x k).length+1) cap) (chL x (k+1)) from ⟨hu,by rw [HY.out];exact ho⟩)
      clear hu ho HI HY
      go_wp2_with fail
      go_roundw
      case rel=>exact ⟨k+1,by omega,by go_num,HJ⟩
      case measure=>simp [intOf];omega
    · have hm1:(m==1)=false:=by simpa using hm
      have HY:=hide (HYN.out.2 (decide_eq_false hm))
      clear hm HYN
      go_wp2_with fail
      go_roundw
      case rel=>exact ⟨k+1,by omega,by go_num,hide (by rw [HY.out];exact HI.out)⟩
      case measure=>simp [intOf];omega
  · have hkb:decide ((k:Int)<n)=false:=by simp;omega
    have hkn:decide (k<n)=false:=by simp;omega
    obtain rfl:k=n:=by omega
    obtain ⟨va,vc,hv⟩:=HI.out.2.form
    have hle:=chL_le x k
    have HL:=hide ((hv▸HI.out.2.lies (by omega)):Lst TInt (fun b=>w.heap.size≤b) _ (.slice va (chL x k).length vc) (chL x k))
    have HU:=hide HI.out.1
    clear HI
    subst hv
    go_wp2_with fail
    obtain ⟨p,hp⟩:=HU.out
    exact bodyPost_ret (v:=.slice va (chL x k).length vc) (by simp [results,Tryz.results14,go_sem]) rfl ⟨_,_,_,p,rfl,HL.out,hp⟩
end Go.Proofs.YteafglginnonnaaGreat
/- The best choice as plain values. No conditions. -/
namespace Go.Proofs.YteafglginnonnaaGreat
open Go.RowKit Go.Shelf
def cmpL:List Int→List Int→Int
 | [],[]=>0
 | [],_::_=>-1
 | _::_,[]=>1
 | x::a,y::b=>if x<y then -1 else if y<x then 1 else cmpL a b
structure ChD where
 left:Int
 cost:Int
 ch:List Int
def betterV (l c l' c':Int):Bool:=decide (l<l') || (decide (l=l')&&decide (c<c'))
def firstV (x y:ChD):Bool:=betterV x.left x.cost y.left y.cost || ((decide (x.left=y.left)&&decide (x.cost=y.cost))&&decide (cmpL x.ch y.ch<0))
def costO (offers:List OffD) (o:Int):Int:=((offers[o.toNat]?).map (·.cost)).getD 0
def darkO (s:SkyD) (offers:List OffD) (m g:Int) (o:Int):Bool:=((offers[o.toNat]?).map (fun x=>darkK s x m g)).getD false
def costL (offers:List OffD) (ch:List Int):Int:=(ch.map (costO offers)).sum
def darkL (s:SkyD) (offers:List OffD) (m g:Int) (ch:List Int):Bool:=ch.all (darkO s offers m g)
def chD (s:SkyD) (d:DriftD) (t:Int) (set:List BoxD) (offers:List OffD) (f:Nat) (bits:Nat):ChD :=
 ⟨worstT (tabV s d t set offers) (sureO offers) set.length f (chL bits offers.length),costL offers (chL bits offers.length),chL bits offers.length⟩
def bstepV (s:SkyD) (d:DriftD) (t:Int) (set:List BoxD) (offers:List OffD) (m g budget:Int) (f:Nat) (best:ChD) (bits:Nat):ChD :=
 if darkL s offers m g (chL bits offers.length)=true then
  (if budget<(chD s d t set offers f bits).cost then best else (if firstV (chD s d t set offers f bits) best=true then chD s d t set offers f bits else best))
 else best
def bestF (s:SkyD) (d:DriftD) (t:Int) (set:List BoxD) (offers:List OffD) (m g budget:Int) (f:Nat) (k:Nat):ChD :=
 (List.range k).foldl (bstepV s d t set offers m g budget f) ⟨worstT (tabV s d t set offers) (sureO offers) set.length 0 [],0,[]⟩
theorem bestF_zero (s:SkyD) (d:DriftD) (t:Int) (set:List BoxD) (offers:List OffD) (m g budget:Int) (f:Nat):bestF s d t set offers m g budget f 0=⟨worstT (tabV s d t set offers) (sureO offers) set.length 0 [],0,[]⟩:=rfl
theorem bestF_succ (s:SkyD) (d:DriftD) (t:Int) (set:List BoxD) (offers:List OffD) (m g budget:Int) (f:Nat) (k:Nat):bestF s d t set offers m g budget f (k+1)=bstepV s d t set offers m g budget f (bestF s d t set offers m g budget f k) k:=by
 unfold bestF;rw [List.range_succ,List.foldl_append];rfl
def bestE (s:SkyD) (d:DriftD) (t:Int) (set:List BoxD) (offers:List OffD) (m g budget fails:Int):Int :=
 if watchE s d t set offers=0 then
  (if withinB fails 0 3=true∧withinB budget 0 1000=true then
   (if 0≤m∧m<s.bodies.length then (if withinB g 0 1000000=true then 0 else 2) else 7)
  else 2)
 else watchE s d t set offers
def bestV (s:SkyD) (d:DriftD) (t:Int) (set:List BoxD) (offers:List OffD) (m g budget fails:Int):ChD :=
 if bestE s d t set offers m g budget fails=0 then bestF s d t set offers m g budget fails.toNat (2^offers.length) else ⟨0,0,[]⟩
theorem mem_chL' {x:Int} {k:Nat} {o:Int} (h:o∈chL x k):0≤o∧o<k:=by
 unfold chL at h
 simp only [List.mem_map,List.mem_filter,List.mem_range] at h
 obtain ⟨i,⟨hi,_⟩,rfl⟩:=h
 omega
theorem costO_at {offers:List OffD} {i:Nat} {o:OffD} (h:offers[i]?=some o):costO offers i=o.cost:=by
 unfold costO;rw [Int.toNat_natCast,h];rfl
theorem darkO_at {s:SkyD} {offers:List OffD} {m g:Int} {i:Nat} {o:OffD} (h:offers[i]?=some o):darkO s offers m g i=darkK s o m g:=by
 unfold darkO;rw [Int.toNat_natCast,h];rfl
theorem costL_add (offers:List OffD) (a b:List Int):costL offers (a++b)=costL offers a+costL offers b:=by
 unfold costL;rw [List.map_append,List.sum_append]
theorem costL_one (offers:List OffD) (o:Int):costL offers [o]=costO offers o:=by
 unfold costL;simp
theorem darkL_add (s:SkyD) (offers:List OffD) (m g:Int) (a b:List Int):darkL s offers m g (a++b)=(darkL s offers m g a&&darkL s offers m g b):=by
 unfold darkL;rw [List.all_append]
theorem darkL_one (s:SkyD) (offers:List OffD) (m g:Int) (o:Int):darkL s offers m g [o]=darkO s offers m g o:=by
 unfold darkL;simp
theorem chL_pre (x:Int) {k n:Nat} (h:k≤n):∃ l,chL x n=chL x k++l:=by
 induction n with
 | zero=>exact ⟨[],by rw [show k=0 by omega];simp⟩
 | succ n ih =>
  rcases Nat.lt_or_ge n k with h1 | h1
  · exact ⟨[],by rw [show k=n+1 by omega];simp⟩
  · obtain ⟨l,hl⟩:=ih h1
    rcases hb:bitB x n with _ | _
    · exact ⟨l,by rw [chL_no hb,hl]⟩
    · exact ⟨l++[(n:Int)],by rw [chL_yes hb,hl,List.append_assoc]⟩
theorem darkL_no {s:SkyD} {offers:List OffD} {m g:Int} {x:Int} {k n:Nat} (hk:k<n) {o:OffD} (ho:offers[k]?=some o) (hb:bitB x k=true) (hd:darkK s o m g=false):darkL s offers m g (chL x n)=false:=by
 obtain ⟨l,hl⟩:=chL_pre x (show k+1≤n by omega)
 rw [hl,chL_yes hb,darkL_add,darkL_add,darkL_one,darkO_at ho,hd]
 simp
theorem costL_yes {offers:List OffD} {x:Int} {k:Nat} {o:OffD} (ho:offers[k]?=some o) (hb:bitB x k=true):costL offers (chL x (k+1))=costL offers (chL x k)+o.cost:=by
 rw [chL_yes hb,costL_add,costL_one,costO_at ho]
theorem darkL_yes {s:SkyD} {offers:List OffD} {m g:Int} {x:Int} {k:Nat} {o:OffD} (ho:offers[k]?=some o) (hb:bitB x k=true) (h:darkL s offers m g (chL x k)=true) (hd:darkK s o m g=true):darkL s offers m g (chL x (k+1))=true:=by
 rw [chL_yes hb,darkL_add,darkL_one,darkO_at ho,h,hd];rfl
theorem costL_bd {offers:List OffD} (hc:∀ o∈offers,0≤o.cost∧o.cost≤1000):∀ (l:List Int),0≤costL offers l∧costL offers l≤1000*l.length
 | []=>by unfold costL;simp
 | x::l=>by
  have ih:=costL_bd hc l
  have e:costL offers (x::l)=costO offers x+costL offers l:=by unfold costL;simp
  have h1:0≤costO offers x∧costO offers x≤1000:=by
   unfold costO
   rcases ho:offers[x.toNat]? with _ | o
   · simp
   · simpa using hc o (List.mem_of_getElem? ho)
  simp only [List.length_cons,Int.natCast_add]
  omega
end Go.Proofs.YteafglginnonnaaGreat
/- Which choice comes first: slices.Compare at []int, cmp.Compare at int, better, first. Conditions: what lies in memory. -/
namespace Go.Proofs.YteafglginnonnaaGreat
open Go.RowKit Go.Shelf
theorem isnan_any (x:Int) (w:World):Gives Tryz.prog 176 #[.int .i64 x] w (.bool false):=by
 (unfold Gives;go_enter Tryz.func176,Tryz.ntmps176)
 go_wp2
 all_goals (go_ret;refine ⟨?_,(by repeat (first|with_reducible (first|exact Up.refl _|apply Up.plus)|apply Up.ext|apply Up.alloc|apply Up.drew|refine Up.setCell ?_ (by simp;try omega) _))⟩)
 all_goals simp
def cmpI (x y:Int):Int:=if x<y then -1 else if y<x then 1 else 0
theorem ccmp_any (x y:Int) (w:World):Gives Tryz.prog 142 #[.int .i64 x,.int .i64 y] w (.int .i64 (cmpI x y)):=by
 rcases Int.lt_trichotomy x y with h | h | h
 · have d1:decide (x<y)=true:=decide_eq_true h
   have e:cmpI x y = -1:=by unfold cmpI;rw [if_pos h]
   rw [e]
   clear h e
   (unfold Gives;go_enter Tryz.func142,Tryz.ntmps142)
   go_wp2_with (go_at_call 176;refine (isnan_any _ _).mono ?_;intro _)
   all_goals (go_ret;refine ⟨rfl,(by repeat (first|with_reducible (first|exact Up.refl _|apply Up.plus)|apply Up.ext|apply Up.alloc|apply Up.drew|refine Up.setCell ?_ (by simp;try omega) _))⟩)
 · subst h
   have d1:decide (x<x)=false:=by simp
   have e:cmpI x x=0:=by unfold cmpI;simp
   rw [e]
   clear e
   (unfold Gives;go_enter Tryz.func142,Tryz.ntmps142)
   go_wp2_with (go_at_call 176;refine (isnan_any _ _).mono ?_;intro _)
   all_goals (go_ret;refine ⟨rfl,(by repeat (first|with_reducible (first|exact Up.refl _|apply Up.plus)|apply Up.ext|apply Up.alloc|apply Up.drew|refine Up.setCell ?_ (by simp;try omega) _))⟩)
 · have d1:decide (x<y)=false:=decide_eq_false (by omega)
   have d2:decide (y<x)=true:=decide_eq_true h
   have e:cmpI x y=1:=by unfold cmpI;rw [if_neg (by omega),if_pos h]
   rw [e]
   clear h e
   (unfold Gives;go_enter Tryz.func142,Tryz.ntmps142)
   go_wp2_with (go_at_call 176;refine (isnan_any _ _).mono ?_;intro _)
   all_goals (go_ret;refine ⟨rfl,(by repeat (first|with_reducible (first|exact Up.refl _|apply Up.plus)|apply Up.ext|apply Up.alloc|apply Up.drew|refine Up.setCell ?_ (by simp;try omega) _))⟩)
theorem drop_at {l:List Int} {k:Nat} {p:Int} (h:l[k]?=some p):l.drop k=p::l.drop (k+1):=by
 obtain ⟨hk,rfl⟩:=List.getElem?_eq_some_iff.1 h
 exact List.drop_eq_getElem_cons hk
theorem cmpL_step {a b:List Int} {k:Nat} {p q:Int} (h:a[k]?=some p) (h':b[k]?=some q):cmpL (a.drop k) (b.drop k)=if cmpI p q=0 then cmpL (a.drop (k+1)) (b.drop (k+1)) else cmpI p q:=by
 rw [drop_at h,drop_at h']
 unfold cmpI
 conv=>lhs;unfold cmpL
 split
 · simp
 · split
   · simp
   · simp
theorem cmpL_right {a b:List Int} {k:Nat} {p:Int} (h:a[k]?=some p) (h':b.length≤k):cmpL (a.drop k) (b.drop k)=1:=by
 rw [drop_at h,List.drop_eq_nil_of_le h'];rfl
theorem cmpL_left {a b:List Int} {k:Nat} (h:a.length≤k):cmpL (a.drop k) (b.drop k)=if k<b.length then -1 else 0:=by
 rw [List.drop_eq_nil_of_le h]
 split
 · rename_i h1
   rw [drop_at (List.getElem?_eq_getElem h1)];rfl
 · rename_i h1
   rw [List.drop_eq_nil_of_le (by omega)];rfl
set_option maxRecDepth 100000 in
set_option maxHeartbeats 8000000 in
theorem scmp_any {w:World} {K K':Nat→Prop} {aa ba:Option Addr} {an ac bn bc:Nat} {a b:List Int} (hA:Lst TInt K w (.slice aa an ac) a) (hB:Lst TInt K' w (.slice ba bn bc) b) :
 Gives Tryz.prog 102 #[.slice aa an ac,.slice ba bn bc] w (.int .i64 (cmpL a b)):=by
 have han:=(Ints.at hA).1
 have ham:=(Ints.at hA).2.1
 have hbn:=(Ints.at hB).1
 have hbm:=(Ints.at hB).2.1
 have HFA:=hide hA
 have HFB:=hide hB
 have HNA:=hide han
 have HNB:=hide hbn
 clear hA hB han hbn
 (unfold Gives;go_enter Tryz.func102,Tryz.ntmps102)
 go_wp2
 go_loopw [11] (fun s11 wr=>∃ k:Nat,k≤an∧s11=.int .i64 k∧Up w wr∧Hid (cmpL a b=cmpL (a.drop k) (b.drop k)∧k≤b.length)) (fun s11 _=>an - (intOf s11).toNat)
 case atStart=>exact ⟨0,by omega,rfl,Up.refl _,hide ⟨by simp,by omega⟩⟩
 case round =>
  obtain ⟨k,hk,rfl,hu,hc⟩:=hrel
  have HU:=hide hu
  by_cases hlt:k<an
  · obtain ⟨g,o,p,rfl,hKb,hbw,hp,hc0⟩:=(Ints.at (HFA.out.keeps (hu.keeps K))).2.2 k hlt
    have hkb:decide ((k:Int)<an)=true:=by simp;omega
    have hkn:decide (k<an)=true:=decide_eq_true hlt
    have HP:=hide hp
    clear hp hKb
    by_cases h1:bn≤k
    · have d1:decide ((bn:Int)≤k)=true:=by simp;omega
      have d1n:decide (bn≤k)=true:=decide_eq_true h1
      have HR:=hide (hc.out.1.trans (cmpL_right HP.out (by rw [← HNB.out];exact h1)))
      clear hu h1
      go_wp2
      go_ret
      exact ⟨by rw [HR.out];rfl,HU.out⟩
    have d1:decide ((bn:Int)≤k)=false:=by simp;omega
    have d1n:decide (bn≤k)=false:=decide_eq_false h1
    obtain ⟨g',o',q,rfl,hKq,hbq,hq,hq0⟩:=(Ints.at (HFB.out.keeps (hu.keeps K'))).2.2 k (by omega)
    have hltb:k<bn:=by omega
    have hkm:decide ((k:Int)<bn)=true:=by simp;omega
    have hkmn:decide (k<bn)=true:=by simp;omega
    have HQ:=hide hq
    clear hq hKq
    have HS:=hide (cmpL_step HP.out HQ.out)
    have HK:=hide (show k+1≤b.length by rw [← HNB.out];omega)
    have hce:(cmpI p q=0)∨(cmpI p q≠0):=by omega
    obtain ⟨C,hC⟩:∃ C,C=cmpI p q:=⟨_,rfl⟩
    have HCM:=hide (fun W=>ccmp_any p q W)
    rw [← hC] at HCM hce HS
    clear hC hu h1
    rcases hce with rfl | hne
    · go_wp2_with (go_at_call 142;refine (HCM.out _).mono ?_;intro _)
      refine ⟨⟨k+1,by omega,by go_num,HU.out.trans (by repeat (first|with_reducible (first|exact Up.refl _|apply Up.plus)|apply Up.ext|apply Up.alloc|apply Up.drew|refine Up.setCell ?_ (by simp;try omega) _)),hide ⟨?_,HK.out⟩⟩,by simp [intOf];omega⟩
      rw [hc.out.1,HS.out];simp
    · have hnb:(C != 0)=true:=by simpa using hne
      have HR:=hide (show cmpL a b=C by rw [hc.out.1,HS.out,if_neg hne])
      clear hne
      go_wp2_with (go_at_call 142;refine (HCM.out _).mono ?_;intro _)
      go_ret
      exact ⟨by rw [HR.out];rfl,HU.out.trans (by repeat (first|with_reducible (first|exact Up.refl _|apply Up.plus)|apply Up.ext|apply Up.alloc|apply Up.drew|refine Up.setCell ?_ (by simp;try omega) _))⟩
  · have hkb:decide ((k:Int)<an)=false:=by simp;omega
    obtain rfl:k=an:=by omega
    have HR:=hide (hc.out.1.trans (cmpL_left (b:=b) (by rw [← HNA.out];exact Nat.le_refl _)))
    by_cases h2:k<bn
    · have d2:decide ((k:Int)<bn)=true:=by simp;omega
      have d2n:decide (k<bn)=true:=decide_eq_true h2
      have HR2:=hide (show cmpL a b = -1 by rw [HR.out,if_pos (by rw [← HNB.out];exact h2)])
      clear hu h2 hlt
      go_wp2
      go_ret
      exact ⟨by rw [HR2.out];rfl,HU.out⟩
    · have d2:decide ((k:Int)<bn)=false:=by simp;omega
      have d2n:decide (k<bn)=false:=decide_eq_false h2
      have HR2:=hide (show cmpL a b=0 by rw [HR.out,if_neg (by rw [← HNB.out];exact h2)])
      clear hu h2 hlt
      go_wp2
      go_ret
      exact ⟨by rw [HR2.out];rfl,HU.out⟩
theorem better_any (l c l' c':Int) (w:World):Gives Tryz.prog 101 #[.agg #[.int .i64 (l),.int .i64 (c)],.agg #[.int .i64 (l'),.int .i64 (c')]] w (.bool (betterV l c l' c')):=by
 unfold betterV
 (unfold Gives;go_enter Tryz.func101,Tryz.ntmps101)
 go_wp2
 all_goals (go_ret;refine ⟨?_,(by repeat (first|with_reducible (first|exact Up.refl _|apply Up.plus)|apply Up.ext|apply Up.alloc|apply Up.drew|refine Up.setCell ?_ (by simp;try omega) _))⟩)
 all_goals (go_light;first|(simp_all [betterV];done)|(simp_all [betterV];omega)|(simp_all [betterV];repeat' split;all_goals (first|(simp_all;done)|omega|(simp_all;omega))))
set_option maxRecDepth 100000 in
theorem chfirst_any {w:World} {K K':Nat→Prop} {aa ba:Option Addr} {an ac bn bc:Nat} {l c l' c':Int} {a b:List Int} (hA:Lst TInt K w (.slice aa an ac) a) (hB:Lst TInt K' w (.slice ba bn bc) b) :
 Gives Tryz.prog 56 #[.agg #[.int .i64 l,.int .i64 c,.slice aa an ac],.agg #[.int .i64 l',.int .i64 c',.slice ba bn bc]] w (.bool (firstV ⟨l,c,a⟩ ⟨l',c',b⟩)):=by
 have HC:=hide (fun W (hu:Up w W)=>scmp_any (hA.up hu) (hB.up hu))
 have HB:=hide (fun W=>better_any l c l' c' W)
 clear hA hB
 unfold firstV
 dsimp only
 generalize betterV l c l' c'=B at *
 generalize cmpL a b=C at *
 cases B
 · by_cases h1:l=l'
   · by_cases h2:c=c'
     · subst h1
       subst h2
       by_cases h3:C<0
       · have d3:decide (C<0)=true:=decide_eq_true h3
         clear h3
         (unfold Gives;go_enter Tryz.func56,Tryz.ntmps56)
         go_wp2_with (first|(go_at_call 101;refine (HB.out _).mono ?_;intro _)|(go_at_call 102;refine (HC.out _ (by repeat (first|with_reducible (first|exact Up.refl _|apply Up.plus)|apply Up.ext|apply Up.alloc|apply Up.drew|refine Up.setCell ?_ (by simp;try omega) _))).mono ?_;intro _))
         go_ret
         exact ⟨by simp [d3],(by repeat (first|with_reducible (first|exact Up.refl _|apply Up.plus)|apply Up.ext|apply Up.alloc|apply Up.drew|refine Up.setCell ?_ (by simp;try omega) _))⟩
       · have d3:decide (C<0)=false:=decide_eq_false h3
         clear h3
         (unfold Gives;go_enter Tryz.func56,Tryz.ntmps56)
         go_wp2_with (first|(go_at_call 101;refine (HB.out _).mono ?_;intro _)|(go_at_call 102;refine (HC.out _ (by repeat (first|with_reducible (first|exact Up.refl _|apply Up.plus)|apply Up.ext|apply Up.alloc|apply Up.drew|refine Up.setCell ?_ (by simp;try omega) _))).mono ?_;intro _))
         go_ret
         exact ⟨by simp [d3],(by repeat (first|with_reducible (first|exact Up.refl _|apply Up.plus)|apply Up.ext|apply Up.alloc|apply Up.drew|refine Up.setCell ?_ (by simp;try omega) _))⟩
     · have d2:decide (c=c')=false:=decide_eq_false h2
       have d2b:(c==c')=false:=by simpa using h2
       subst h1
       clear h2
       (unfold Gives;go_enter Tryz.func56,Tryz.ntmps56)
       go_wp2_with (first|(go_at_call 101;refine (HB.out _).mono ?_;intro _)|(go_at_call 102;refine (HC.out _ (by repeat (first|with_reducible (first|exact Up.refl _|apply Up.plus)|apply Up.ext|apply Up.alloc|apply Up.drew|refine Up.setCell ?_ (by simp;try omega) _))).mono ?_;intro _))
       go_ret
       exact ⟨by simp [d2,d2b],(by repeat (first|with_reducible (first|exact Up.refl _|apply Up.plus)|apply Up.ext|apply Up.alloc|apply Up.drew|refine Up.setCell ?_ (by simp;try omega) _))⟩
   · have d1:decide (l=l')=false:=decide_eq_false h1
     have d1b:(l==l')=false:=by simpa using h1
     clear h1
     (unfold Gives;go_enter Tryz.func56,Tryz.ntmps56)
     go_wp2_with (first|(go_at_call 101;refine (HB.out _).mono ?_;intro _)|(go_at_call 102;refine (HC.out _ (by repeat (first|with_reducible (first|exact Up.refl _|apply Up.plus)|apply Up.ext|apply Up.alloc|apply Up.drew|refine Up.setCell ?_ (by simp;try omega) _))).mono ?_;intro _))
     go_ret
     exact ⟨by simp [d1,d1b],(by repeat (first|with_reducible (first|exact Up.refl _|apply Up.plus)|apply Up.ext|apply Up.alloc|apply Up.drew|refine Up.setCell ?_ (by simp;try omega) _))⟩
 · (unfold Gives;go_enter Tryz.func56,Tryz.ntmps56)
   go_wp2_with (first|(go_at_call 101;refine (HB.out _).mono ?_;intro _)|(go_at_call 102;refine (HC.out _ (by repeat (first|with_reducible (first|exact Up.refl _|apply Up.plus)|apply Up.ext|apply Up.alloc|apply Up.drew|refine Up.setCell ?_ (by simp;try omega) _))).mono ?_;intro _))
   go_ret
   exact ⟨by simp,(by repeat (first|with_reducible (first|exact Up.refl _|apply Up.plus)|apply Up.ext|apply Up.alloc|apply Up.drew|refine Up.setCell ?_ (by simp;try omega) _))⟩
end Go.Proofs.YteafglginnonnaaGreat
/- Package watch: which offers are dark. Conditions: what lies in memory. -/
namespace Go.Proofs.YteafglginnonnaaGreat
open Go.RowKit Go.Shelf
@[go_sem] theorem assert_scope (v:Value) (w:World):(Instr.typeAssert (.iface 178 v) 117 178 true).run Tryz.prog w=.ok (.tuple #[v,.bool true]) w:=by kernel_rfl
@[go_sem] theorem assert_radar (v:Value) (w:World):(Instr.typeAssert (.iface 175 v) 117 178 true).run Tryz.prog w=.ok (.tuple #[.agg #[.int .i64 (0),.int .i64 (0),.int .i64 (0),.int .i64 (0),.int .i64 (0),.int .i64 (0),.int .i64 (0),.int .i64 (0),.int .i64 (0)],.bool false]) w:=by kernel_rfl
set_option maxRecDepth 100000 in
set_option maxHeartbeats 4000000 in
theorem wdark_any {K:Nat→Prop} {w:World} {a sa ca:Option Addr} {n c sn sc cn cc:Nat} {s:SkyD} (hL:SkyL K w a n c sa sn sc ca cn cc s) (o:OffD) (he:offE s o=0) {m g:Int} (hg:0≤g∧g≤1000000):Gives Tryz.prog 55 #[.agg #[.slice a n c,.int .i64 s.home,.slice sa sn sc,.slice ca cn cc],.agg (offA o),.agg #[.int .i64 (m),.int .i64 (g)]] w (.bool (darkK s o m g)):=by
 have HO:=hide (fun W (hu:Up w W)=>wof_any (hL.up hu).b hL.h (hL.up hu).st (hL.up hu).ca he)
 have hk:=kbd_of he
 obtain ⟨P1,hP1⟩:∃ z,(atW s.bodies s.home m o.tick).1=z:=⟨_,rfl⟩
 obtain ⟨P2,hP2⟩:∃ z,(atW s.bodies s.home m o.tick).2=z:=⟨_,rfl⟩
 have hP:atW s.bodies s.home m o.tick=(P1,P2):=by rw [← hP1,← hP2]
 have hbd:=atW_bd s.bodies s.home m o.tick
 have HAT:=hide (fun W (hu:Up w W)=>skat_any (hL.up hu).b (hL.up hu).h m o.tick)
 unfold darkK
 rw [hP] at HAT hbd ⊢
 dsimp only at HAT hbd
 have HWI:=hide (fun W=>wwithin2_any (p:=(P1,P2)) hk hbd hg.1 hg.2 W)
 clear hP hP1 hP2 hbd he hL
 generalize kndOf s o=k at *
 generalize s.home=home at *
 unfold kndV at HO
 cases hs:k.sc
 · rw [if_neg (by simp [hs])] at HO
   simp only [Bool.not_false,Bool.true_or]
   clear hs hk HWI HAT
   (unfold Gives;go_enter Tryz.func55,Tryz.ntmps55)
   go_wp2_with fail
   go_at_call 50
   refine forgetK (fun V=>Up w V∧Box V w.heap.size #[.slice a n c,.int .i64 home,.slice sa sn sc,.slice ca cn cc] 29∧Box V (w.heap.size+1) (offA o) 50∧Box V (w.heap.size+1+1) #[.int .i64 (m),.int .i64 (g)] 71) ⟨(by repeat (first|with_reducible (first|exact Up.refl _|apply Up.plus)|apply Up.ext|apply Up.alloc|apply Up.drew|refine Up.setCell ?_ (by simp;try omega) _)),(by repeat (first|exact Box.mk rfl|(refine Box.mk ?_;simp;done)|apply Box.ext|apply Box.drew|apply Box.alloc|apply Box.two1|refine Box.other ?_ (by omega) _ _)),(by repeat (first|exact Box.mk rfl|(refine Box.mk ?_;simp;done)|apply Box.ext|apply Box.drew|apply Box.alloc|apply Box.two1|refine Box.other ?_ (by omega) _ _)),(by repeat (first|exact Box.mk rfl|(refine Box.mk ?_;simp;done)|apply Box.ext|apply Box.drew|apply Box.alloc|apply Box.two1|refine Box.other ?_ (by omega) _ _))⟩ ?_
   rintro V ⟨hu,b0,b1,b2⟩
   have s0:=b0.cell 0 rfl
   have s1:=b0.cell 1 rfl
   have s2:=b0.cell 2 rfl
   have s3:=b0.cell 3 rfl
   have ls:=b0.lt
   have f0:=b1.cell 0 rfl
   have f1:=b1.cell 1 rfl
   have f2:=b1.cell 2 rfl
   have f3:=b1.cell 3 rfl
   have f4:=b1.cell 4 rfl
   have f5:=b1.cell 5 rfl
   have f6:=b1.cell 6 rfl
   have f7:=b1.cell 7 rfl
   have f8:=b1.cell 8 rfl
   have f9:=b1.cell 9 rfl
   have f10:=b1.cell 10 rfl
   have lf:=b1.lt
   have g0:=b2.cell 0 rfl
   have g1:=b2.cell 1 rfl
   have lg:=b2.lt
   have HB:=hide (hu)
   clear hu b0 b1 b2
   refine (HO.out _ HB.out).mono ?_
   intro q1
   go_wp2_with fail
   ((first | with_reducible refine wp_region_ext2 (by kernel_rfl) (by kernel_rfl) ?_ | refine wp_region_ext (by kernel_rfl) (by kernel_rfl) ?_);(repeat (go_big_quiet_step (fail)));refine wpQuiet_nil ?_;intro _ hw';obtain ⟨_,hw''⟩:=hw';subst hw'')
   go_wp2
   go_ret
   exact ⟨rfl,(by repeat (first|with_reducible exact HB.out|with_reducible exact Up.refl _|apply Up.ext|apply Up.alloc|apply Up.drew|(refine Up.setCell ?_ (by simp [World.setCell];try omega) _)))⟩
 · rw [if_pos (by simp [hs])] at HO
   simp only [Bool.not_true,Bool.false_or]
   generalize withinK k (P1,P2) g=F at *
   dsimp only at HWI
   clear hs hk
   (unfold Gives;go_enter Tryz.func55,Tryz.ntmps55)
   go_wp2_with fail
   go_at_call 50
   refine forgetK (fun V=>Up w V∧Box V w.heap.size #[.slice a n c,.int .i64 home,.slice sa sn sc,.slice ca cn cc] 29∧Box V (w.heap.size+1) (offA o) 50∧Box V (w.heap.size+1+1) #[.int .i64 (m),.int .i64 (g)] 71) ⟨(by repeat (first|with_reducible (first|exact Up.refl _|apply Up.plus)|apply Up.ext|apply Up.alloc|apply Up.drew|refine Up.setCell ?_ (by simp;try omega) _)),(by repeat (first|exact Box.mk rfl|(refine Box.mk ?_;simp;done)|apply Box.ext|apply Box.drew|apply Box.alloc|apply Box.two1|refine Box.other ?_ (by omega) _ _)),(by repeat (first|exact Box.mk rfl|(refine Box.mk ?_;simp;done)|apply Box.ext|apply Box.drew|apply Box.alloc|apply Box.two1|refine Box.other ?_ (by omega) _ _)),(by repeat (first|exact Box.mk rfl|(refine Box.mk ?_;simp;done)|apply Box.ext|apply Box.drew|apply Box.alloc|apply Box.two1|refine Box.other ?_ (by omega) _ _))⟩ ?_
   rintro V ⟨hu,b0,b1,b2⟩
   have s0:=b0.cell 0 rfl
   have s1:=b0.cell 1 rfl
   have s2:=b0.cell 2 rfl
   have s3:=b0.cell 3 rfl
   have ls:=b0.lt
   have f0:=b1.cell 0 rfl
   have f1:=b1.cell 1 rfl
   have f2:=b1.cell 2 rfl
   have f3:=b1.cell 3 rfl
   have f4:=b1.cell 4 rfl
   have f5:=b1.cell 5 rfl
   have f6:=b1.cell 6 rfl
   have f7:=b1.cell 7 rfl
   have f8:=b1.cell 8 rfl
   have f9:=b1.cell 9 rfl
   have f10:=b1.cell 10 rfl
   have lf:=b1.lt
   have g0:=b2.cell 0 rfl
   have g1:=b2.cell 1 rfl
   have lg:=b2.lt
   have HB:=hide (hu)
   clear hu b0 b1 b2
   refine (HO.out _ HB.out).mono ?_
   intro q1
   go_wp2_with fail
   ((first | with_reducible refine wp_region_ext2 (by kernel_rfl) (by kernel_rfl) ?_ | refine wp_region_ext (by kernel_rfl) (by kernel_rfl) ?_);(repeat (go_big_quiet_step ((first | (go_at_call 100;with_reducible exact Gives.inRegion (HAT.out _ (by repeat (first | with_reducible exact HB.out | with_reducible apply Up.ext | with_reducible apply Up.alloc | with_reducible apply Up.drew)))) | (go_at_call 99;with_reducible exact Gives.inRegion (HWI.out _))))));refine wpQuiet_nil ?_;intro _ hw';obtain ⟨_,hw''⟩:=hw';subst hw'')
   go_wp2
   go_ret
   exact ⟨rfl,(by repeat (first|with_reducible exact HB.out|with_reducible exact Up.refl _|apply Up.ext|apply Up.alloc|apply Up.drew|(refine Up.setCell ?_ (by simp [World.setCell];try omega) _)))⟩
set_option maxRecDepth 100000 in
set_option maxHeartbeats 4000000 in
theorem wDark_any {K:Nat→Prop} {w:World} {a sa ca:Option Addr} {n c sn sc cn cc:Nat} {s:SkyD} (hL:SkyL K w a n c sa sn sc ca cn cc s) (o:OffD) (m g:Int):Gives Tryz.prog 35 #[.agg #[.slice a n c,.int .i64 s.home,.slice sa sn sc,.slice ca cn cc],.agg (offA o),.agg #[.int .i64 (m),.int .i64 (g)]] w (.bool (darkV s o m g)):=by
 have HC:=hide (fun W (hu:Up w W)=>wcheck_any (hL.up hu).b (hL.up hu).h (hL.up hu).st (hL.up hu).ca o)
 have hn:=(Bods.at hL.b).1
 have hnm:=(Bods.at hL.b).2.1
 unfold darkV
 by_cases he:offE s o=0
 rotate_left
 · rw [decide_eq_false he,Bool.false_and]
   have heb:(offE s o==0)=false:=by simpa using he
   generalize offE s o=e at *
   generalize s.home=home at *
   clear hL he hn
   (unfold Gives;go_enter Tryz.func35,Tryz.ntmps35)
   go_wp2_with fail
   go_at_call 44
   refine forgetK (fun V=>Up w V∧Box V w.heap.size #[.slice a n c,.int .i64 home,.slice sa sn sc,.slice ca cn cc] 29∧Box V (w.heap.size+1) (offA o) 50∧Box V (w.heap.size+1+1) #[.int .i64 (m),.int .i64 (g)] 71) ⟨(by repeat (first|with_reducible (first|exact Up.refl _|apply Up.plus)|apply Up.ext|apply Up.alloc|apply Up.drew|refine Up.setCell ?_ (by simp;try omega) _)),(by repeat (first|exact Box.mk rfl|(refine Box.mk ?_;simp;done)|apply Box.ext|apply Box.drew|apply Box.alloc|apply Box.two1|refine Box.other ?_ (by omega) _ _)),(by repeat (first|exact Box.mk rfl|(refine Box.mk ?_;simp;done)|apply Box.ext|apply Box.drew|apply Box.alloc|apply Box.two1|refine Box.other ?_ (by omega) _ _)),(by repeat (first|exact Box.mk rfl|(refine Box.mk ?_;simp;done)|apply Box.ext|apply Box.drew|apply Box.alloc|apply Box.two1|refine Box.other ?_ (by omega) _ _))⟩ ?_
   rintro V ⟨hu,b0,b1,b2⟩
   have s0:=b0.cell 0 rfl
   have s1:=b0.cell 1 rfl
   have s2:=b0.cell 2 rfl
   have s3:=b0.cell 3 rfl
   have ls:=b0.lt
   have f0:=b1.cell 0 rfl
   have f1:=b1.cell 1 rfl
   have f2:=b1.cell 2 rfl
   have f3:=b1.cell 3 rfl
   have f4:=b1.cell 4 rfl
   have f5:=b1.cell 5 rfl
   have f6:=b1.cell 6 rfl
   have f7:=b1.cell 7 rfl
   have f8:=b1.cell 8 rfl
   have f9:=b1.cell 9 rfl
   have f10:=b1.cell 10 rfl
   have lf:=b1.lt
   have g0:=b2.cell 0 rfl
   have g1:=b2.cell 1 rfl
   have lg:=b2.lt
   have HB:=hide (hu)
   clear hu b0 b1 b2
   refine (HC.out _ HB.out).mono ?_
   intro q1
   go_wp2
   go_ret
   exact ⟨rfl,(by repeat (first|with_reducible exact HB.out|with_reducible exact Up.refl _|apply Up.ext|apply Up.alloc|apply Up.drew|(refine Up.setCell ?_ (by simp [World.setCell];try omega) _)))⟩
 rw [decide_eq_true he,Bool.true_and]
 rw [he] at HC
 rw [← hn]
 by_cases h1:0≤m
 rotate_left
 · rw [decide_eq_false h1,Bool.false_and]
   generalize s.home=home at *
   clear hL he hn
   (unfold Gives;go_enter Tryz.func35,Tryz.ntmps35)
   go_wp2_with fail
   go_at_call 44
   refine forgetK (fun V=>Up w V∧Box V w.heap.size #[.slice a n c,.int .i64 home,.slice sa sn sc,.slice ca cn cc] 29∧Box V (w.heap.size+1) (offA o) 50∧Box V (w.heap.size+1+1) #[.int .i64 (m),.int .i64 (g)] 71) ⟨(by repeat (first|with_reducible (first|exact Up.refl _|apply Up.plus)|apply Up.ext|apply Up.alloc|apply Up.drew|refine Up.setCell ?_ (by simp;try omega) _)),(by repeat (first|exact Box.mk rfl|(refine Box.mk ?_;simp;done)|apply Box.ext|apply Box.drew|apply Box.alloc|apply Box.two1|refine Box.other ?_ (by omega) _ _)),(by repeat (first|exact Box.mk rfl|(refine Box.mk ?_;simp;done)|apply Box.ext|apply Box.drew|apply Box.alloc|apply Box.two1|refine Box.other ?_ (by omega) _ _)),(by repeat (first|exact Box.mk rfl|(refine Box.mk ?_;simp;done)|apply Box.ext|apply Box.drew|apply Box.alloc|apply Box.two1|refine Box.other ?_ (by omega) _ _))⟩ ?_
   rintro V ⟨hu,b0,b1,b2⟩
   have s0:=b0.cell 0 rfl
   have s1:=b0.cell 1 rfl
   have s2:=b0.cell 2 rfl
   have s3:=b0.cell 3 rfl
   have ls:=b0.lt
   have f0:=b1.cell 0 rfl
   have f1:=b1.cell 1 rfl
   have f2:=b1.cell 2 rfl
   have f3:=b1.cell 3 rfl
   have f4:=b1.cell 4 rfl
   have f5:=b1.cell 5 rfl
   have f6:=b1.cell 6 rfl
   have f7:=b1.cell 7 rfl
   have f8:=b1.cell 8 rfl
   have f9:=b1.cell 9 rfl
   have f10:=b1.cell 10 rfl
   have lf:=b1.lt
   have g0:=b2.cell 0 rfl
   have g1:=b2.cell 1 rfl
   have lg:=b2.lt
   have HB:=hide (hu)
   clear hu b0 b1 b2
   refine (HC.out _ HB.out).mono ?_
   intro q1
   go_wp2
   go_ret
   exact ⟨rfl,(by repeat (first|with_reducible exact HB.out|with_reducible exact Up.refl _|apply Up.ext|apply Up.alloc|apply Up.drew|(refine Up.setCell ?_ (by simp [World.setCell];try omega) _)))⟩
 rw [decide_eq_true h1,Bool.true_and]
 by_cases h2:m<n
 rotate_left
 · rw [decide_eq_false h2,Bool.false_and]
   have d2:decide (m<(n:Int))=false:=decide_eq_false h2
   generalize s.home=home at *
   clear hL he hn
   (unfold Gives;go_enter Tryz.func35,Tryz.ntmps35)
   go_wp2_with fail
   go_at_call 44
   refine forgetK (fun V=>Up w V∧Box V w.heap.size #[.slice a n c,.int .i64 home,.slice sa sn sc,.slice ca cn cc] 29∧Box V (w.heap.size+1) (offA o) 50∧Box V (w.heap.size+1+1) #[.int .i64 (m),.int .i64 (g)] 71) ⟨(by repeat (first|with_reducible (first|exact Up.refl _|apply Up.plus)|apply Up.ext|apply Up.alloc|apply Up.drew|refine Up.setCell ?_ (by simp;try omega) _)),(by repeat (first|exact Box.mk rfl|(refine Box.mk ?_;simp;done)|apply Box.ext|apply Box.drew|apply Box.alloc|apply Box.two1|refine Box.other ?_ (by omega) _ _)),(by repeat (first|exact Box.mk rfl|(refine Box.mk ?_;simp;done)|apply Box.ext|apply Box.drew|apply Box.alloc|apply Box.two1|refine Box.other ?_ (by omega) _ _)),(by repeat (first|exact Box.mk rfl|(refine Box.mk ?_;simp;done)|apply Box.ext|apply Box.drew|apply Box.alloc|apply Box.two1|refine Box.other ?_ (by omega) _ _))⟩ ?_
   rintro V ⟨hu,b0,b1,b2⟩
   have s0:=b0.cell 0 rfl
   have s1:=b0.cell 1 rfl
   have s2:=b0.cell 2 rfl
   have s3:=b0.cell 3 rfl
   have ls:=b0.lt
   have f0:=b1.cell 0 rfl
   have f1:=b1.cell 1 rfl
   have f2:=b1.cell 2 rfl
   have f3:=b1.cell 3 rfl
   have f4:=b1.cell 4 rfl
   have f5:=b1.cell 5 rfl
   have f6:=b1.cell 6 rfl
   have f7:=b1.cell 7 rfl
   have f8:=b1.cell 8 rfl
   have f9:=b1.cell 9 rfl
   have f10:=b1.cell 10 rfl
   have lf:=b1.lt
   have g0:=b2.cell 0 rfl
   have g1:=b2.cell 1 rfl
   have lg:=b2.lt
   have HB:=hide (hu)
   clear hu b0 b1 b2
   refine (HC.out _ HB.out).mono ?_
   intro q1
   go_wp2
   go_ret
   exact ⟨rfl,(by repeat (first|with_reducible exact HB.out|with_reducible exact Up.refl _|apply Up.ext|apply Up.alloc|apply Up.drew|(refine Up.setCell ?_ (by simp [World.setCell];try omega) _)))⟩
 rw [decide_eq_true h2,Bool.true_and]
 have d2:decide (m<(n:Int))=true:=decide_eq_true h2
 have HW:=hide (fun W=>wwithin_any g 0 1000000 W)
 by_cases h3:withinB g 0 1000000=true
 rotate_left
 · rw [Bool.eq_false_iff.2 h3] at HW ⊢
   rw [Bool.false_and]
   generalize s.home=home at *
   clear hL he hn h3
   (unfold Gives;go_enter Tryz.func35,Tryz.ntmps35)
   go_wp2_with fail
   go_at_call 44
   refine forgetK (fun V=>Up w V∧Box V w.heap.size #[.slice a n c,.int .i64 home,.slice sa sn sc,.slice ca cn cc] 29∧Box V (w.heap.size+1) (offA o) 50∧Box V (w.heap.size+1+1) #[.int .i64 (m),.int .i64 (g)] 71) ⟨(by repeat (first|with_reducible (first|exact Up.refl _|apply Up.plus)|apply Up.ext|apply Up.alloc|apply Up.drew|refine Up.setCell ?_ (by simp;try omega) _)),(by repeat (first|exact Box.mk rfl|(refine Box.mk ?_;simp;done)|apply Box.ext|apply Box.drew|apply Box.alloc|apply Box.two1|refine Box.other ?_ (by omega) _ _)),(by repeat (first|exact Box.mk rfl|(refine Box.mk ?_;simp;done)|apply Box.ext|apply Box.drew|apply Box.alloc|apply Box.two1|refine Box.other ?_ (by omega) _ _)),(by repeat (first|exact Box.mk rfl|(refine Box.mk ?_;simp;done)|apply Box.ext|apply Box.drew|apply Box.alloc|apply Box.two1|refine Box.other ?_ (by omega) _ _))⟩ ?_
   rintro V ⟨hu,b0,b1,b2⟩
   have s0:=b0.cell 0 rfl
   have s1:=b0.cell 1 rfl
   have s2:=b0.cell 2 rfl
   have s3:=b0.cell 3 rfl
   have ls:=b0.lt
   have f0:=b1.cell 0 rfl
   have f1:=b1.cell 1 rfl
   have f2:=b1.cell 2 rfl
   have f3:=b1.cell 3 rfl
   have f4:=b1.cell 4 rfl
   have f5:=b1.cell 5 rfl
   have f6:=b1.cell 6 rfl
   have f7:=b1.cell 7 rfl
   have f8:=b1.cell 8 rfl
   have f9:=b1.cell 9 rfl
   have f10:=b1.cell 10 rfl
   have lf:=b1.lt
   have g0:=b2.cell 0 rfl
   have g1:=b2.cell 1 rfl
   have lg:=b2.lt
   have HB:=hide (hu)
   clear hu b0 b1 b2
   refine (HC.out _ HB.out).mono ?_
   intro q1
   go_wp2_with (go_at_call 45;(with_reducible refine (HW.out _).mono ?_);intro _)
   go_ret
   exact ⟨rfl,(by repeat (first|with_reducible exact HB.out|with_reducible exact Up.refl _|apply Up.ext|apply Up.alloc|apply Up.drew|(refine Up.setCell ?_ (by simp [World.setCell];try omega) _)))⟩
 have hg:0≤g∧g≤1000000:=by unfold withinB at h3;exact of_decide_eq_true h3
 rw [h3] at HW ⊢
 rw [Bool.true_and]
 have HD:=hide (fun W (hu:Up w W)=>wdark_any (m:=m) (hL.up hu) o he hg)
 generalize darkK s o m g=F at *
 generalize s.home=home at *
 clear hL he hn h3
 (unfold Gives;go_enter Tryz.func35,Tryz.ntmps35)
 go_wp2_with fail
 go_at_call 44
 refine forgetK (fun V=>Up w V∧Box V w.heap.size #[.slice a n c,.int .i64 home,.slice sa sn sc,.slice ca cn cc] 29∧Box V (w.heap.size+1) (offA o) 50∧Box V (w.heap.size+1+1) #[.int .i64 (m),.int .i64 (g)] 71) ⟨(by repeat (first|with_reducible (first|exact Up.refl _|apply Up.plus)|apply Up.ext|apply Up.alloc|apply Up.drew|refine Up.setCell ?_ (by simp;try omega) _)),(by repeat (first|exact Box.mk rfl|(refine Box.mk ?_;simp;done)|apply Box.ext|apply Box.drew|apply Box.alloc|apply Box.two1|refine Box.other ?_ (by omega) _ _)),(by repeat (first|exact Box.mk rfl|(refine Box.mk ?_;simp;done)|apply Box.ext|apply Box.drew|apply Box.alloc|apply Box.two1|refine Box.other ?_ (by omega) _ _)),(by repeat (first|exact Box.mk rfl|(refine Box.mk ?_;simp;done)|apply Box.ext|apply Box.drew|apply Box.alloc|apply Box.two1|refine Box.other ?_ (by omega) _ _))⟩ ?_
 rintro V ⟨hu,b0,b1,b2⟩
 have s0:=b0.cell 0 rfl
 have s1:=b0.cell 1 rfl
 have s2:=b0.cell 2 rfl
 have s3:=b0.cell 3 rfl
 have ls:=b0.lt
 have f0:=b1.cell 0 rfl
 have f1:=b1.cell 1 rfl
 have f2:=b1.cell 2 rfl
 have f3:=b1.cell 3 rfl
 have f4:=b1.cell 4 rfl
 have f5:=b1.cell 5 rfl
 have f6:=b1.cell 6 rfl
 have f7:=b1.cell 7 rfl
 have f8:=b1.cell 8 rfl
 have f9:=b1.cell 9 rfl
 have f10:=b1.cell 10 rfl
 have lf:=b1.lt
 have g0:=b2.cell 0 rfl
 have g1:=b2.cell 1 rfl
 have lg:=b2.lt
 have HB:=hide (hu)
 clear hu b0 b1 b2
 refine (HC.out _ HB.out).mono ?_
 intro q1
 go_wp2_with (first|(go_at_call 45;(with_reducible refine (HW.out _).mono ?_);intro _)|(go_at_call 55;(with_reducible refine (HD.out _ (by repeat (first|with_reducible exact HB.out|with_reducible apply Up.ext|with_reducible apply Up.alloc|with_reducible apply Up.drew))).mono ?_);intro _))
 go_ret
 exact ⟨rfl,(by repeat (first|with_reducible exact HB.out|with_reducible exact Up.refl _|apply Up.ext|apply Up.alloc|apply Up.drew|(refine Up.setCell ?_ (by simp [World.setCell];try omega) _)))⟩
end Go.Proofs.YteafglginnonnaaGreat
