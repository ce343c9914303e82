/- Several texts in one. -/
import Derived.Test.YteafglginnonnaaGreatWof
import Derived.Test.YteafglginnonnaaGreatVO
import Derived.Test.YteafglginnonnaaGreatMore
/- A copy of a list of numbers. Conditions: what lies in memory. -/
namespace Go.Proofs.YteafglginnonnaaGreat
set_option linter.unusedVariables false
set_option linter.unusedSimpArgs false
open Go.RowKit Go.Shelf
@[go_sem] theorem nil_int (a:Addr) (n c:Nat) (w:World):(binOp .eql 22 (.slice (some a) n c) (.slice none 0 0)).run Tryz.prog w = .ok (.bool false) w:=by kernel_rfl
@[go_sem] theorem nil_int0 (n c:Nat) (w:World):(binOp .eql 22 (.slice none n c) (.slice none 0 0)).run Tryz.prog w = .ok (.bool true) w:=by kernel_rfl
set_option maxRecDepth 100000 in
set_option maxHeartbeats 4000000 in
theorem iclone_any {K:Nat → Prop} {w:World} {a:Option Addr} {n c:Nat} {l:List Int} (hl:Lst TInt K w (.slice a n c) l) (h0:l ≠ []) (hn:l.length ≤ 100000):Calls Tryz.prog 92 #[.slice a n c] w fun e W=>∃ (g cap:Nat) (p:Ext),e = .returned (.slice (some ⟨g,0,none⟩) l.length cap) ∧ Own TInt 3 w.heap.size W (.slice (some ⟨g,0,none⟩) l.length cap) l ∧ W = ext w p:=by
 cases a with
 | none =>
  obtain ⟨_,_,h1,_,h3⟩:=hl
  simp at h1
  obtain ⟨b,o,e,_⟩:=h3 h0
  rw [← h1.1] at e
  cases e
 | some ad =>
  have HL:=hide hl
  clear hl h0
  go_enter Tryz.func92,Tryz.ntmps92
  go_wp2_with (at_builtin;with_reducible refine stopA rfl ?_)
  refine hide ?_
  refine wpList_copy elem_int rfl (.tmp 5) (.tmp 6) rfl (w0:=w) (W:=w.alloc (.cells #[] 3)) (by repeat (first | with_reducible exact Up.refl _ | with_reducible apply Up.plus | apply Up.ext | apply Up.alloc | apply Up.drew | (refine Up.setCell ?_ (by simp;try omega) _))) rfl (Box.mk rfl) (Nat.le_refl _) rfl (HL.out.up (by repeat (first | with_reducible exact Up.refl _ | with_reducible apply Up.plus | apply Up.ext | apply Up.alloc | apply Up.drew | (refine Up.setCell ?_ (by simp;try omega) _)))) hn (by decide) ?_
  intro g cap W' hu ho _
  have HE:=hide (show ∃ p,Own TInt 3 w.heap.size W' (.slice (some ⟨g,0,none⟩) l.length cap) l ∧ W' = ext w p from let ⟨p,hp⟩:=hu;⟨p,ho,hp⟩)
  clear hu ho
  go_wp2
  obtain ⟨p,hb,hp⟩:=HE.out
  exact bodyPost_ret (v:=.slice (some ⟨g,0,none⟩) l.length cap) (by simp [results,Tryz.results92,go_sem]) rfl ⟨_,_,p,rfl,hb,hp⟩
end Go.Proofs.YteafglginnonnaaGreat
/- Package watch: how many cells some offers leave together. Conditions: what lies in memory. -/
namespace Go.Proofs.YteafglginnonnaaGreat
set_option linter.unusedVariables false
set_option linter.unusedSimpArgs false
open Go.RowKit Go.Shelf
def mixT (T:Int → Int → VwD) (ch:List Int) (i k:Int):Bool:=decide (i = k) || !(ch.any (apartT T i k))
def cntT (T:Int → Int → VwD) (ch:List Int) (i:Int) (k:Nat):Nat:=(List.range k).countP fun (j:Nat)=>mixT T ch i j
def confT (T:Int → Int → VwD) (ch:List Int) (cn:Nat) (k:Nat):Nat:=(List.range k).foldl (fun m (i:Nat)=>max m (cntT T ch i cn)) 0
theorem cntT_succ (T:Int → Int → VwD) (ch:List Int) (i:Int) (k:Nat):cntT T ch i (k + 1) = cntT T ch i k + (if mixT T ch i k = true then 1 else 0):=by
 unfold cntT
 rw [List.range_succ,List.countP_append,List.countP_cons,List.countP_nil]
 simp
theorem cntT_le (T:Int → Int → VwD) (ch:List Int) (i:Int) (k:Nat):cntT T ch i k ≤ k:=by
 unfold cntT
 have:=List.countP_le_length (p:=fun j:Nat=>mixT T ch i j) (l:=List.range k)
 simpa using this
theorem confT_succ (T:Int → Int → VwD) (ch:List Int) (cn k:Nat):confT T ch cn (k + 1) = max (confT T ch cn k) (cntT T ch k cn):=by
 unfold confT
 rw [List.range_succ,List.foldl_append]
 rfl
theorem confT_le (T:Int → Int → VwD) (ch:List Int) (cn:Nat):∀ k,confT T ch cn k ≤ cn
 | 0=>Nat.zero_le _
 | k + 1=>by
  rw [confT_succ]
  have:=confT_le T ch cn k
  have:=cntT_le T ch k cn
  omega
set_option maxRecDepth 100000 in
set_option maxHeartbeats 20000000 in
theorem wconf_any {w:World} {PB MB:Nat} {oa:Option Addr} {on oc cn:Nat} {T:Int → Int → VwD} (hP:PlanT w PB MB oa on oc cn T) {K:Nat → Prop} {ca:Option Addr} {n c:Nat} {ch:List Int} (hc:Lst TInt K w (.slice ca n c) ch) (hr:∀ o ∈ ch,0 ≤ o ∧ o < on) :
 Gives Tryz.prog 90 #[.pointer (some ⟨PB,0,none⟩),.slice ca n c] w (.int .i64 (confT T ch cn cn)):=by
 have HC:=hide (fun (i k:Int) (i0:0 ≤ i) (i1:i < cn) (k0:0 ≤ k) (k1:k < cn) (W:World) (hu:Up w W) (bp bi bk:Nat) (hp:Box W bp #[.pointer (some ⟨PB,0,none⟩)] 105) (hbi:Box W bi #[.int .i64 i] 3) (hbk:Box W bk #[.int .i64 k] 3) =>
  anyint_any 133 #[.pointer (some ⟨bp,0,none⟩),.pointer (some ⟨bi,0,none⟩),.pointer (some ⟨bk,0,none⟩)] (enters_of Tryz.func133 (by kernel_rfl) rfl) (apartT T i k) (hc.up hu)
   (fun p V hpm hv=>wconf1_any (w:=w) ((hP.up hu).up hv) (hp.up hv) (hbi.up hv) (hbk.up hv) i0 i1 k0 k1 (hr p hpm).1 (hr p hpm).2))
 have HP:=hide hP
 have hn:=hP.n
 clear hP hc hr
 have q1:=HP.out.p.cell 1 rfl
 have lq:=HP.out.p.lt
 (unfold Gives;go_enter Tryz.func90,Tryz.ntmps90)
 go_wp2_with fail
 refine forgetW (fun V=>(Up w V ∧ Box V w.heap.size #[.pointer (some ⟨PB,0,none⟩)] 105) ∧ PlanT V PB MB oa on oc cn T) ⟨⟨(by repeat (first | with_reducible exact Up.refl _ | with_reducible apply Up.plus | apply Up.ext | apply Up.alloc | apply Up.drew | (refine Up.setCell ?_ (by simp;try omega) _))),(by repeat (first | exact Box.mk rfl | (refine Box.mk ?_;simp;done) | apply Box.ext | apply Box.drew | apply Box.alloc | apply Box.two1 | (refine Box.other ?_ (by omega) _ _)))⟩,HP.out.up (by repeat (first | with_reducible exact Up.refl _ | with_reducible apply Up.plus | apply Up.ext | apply Up.alloc | apply Up.drew | (refine Up.setCell ?_ (by simp;try omega) _)))⟩ ?_
 clear q1 lq
 intro V0 h0
 have H0:=hide h0
 clear h0
 go_loopw [5,14] (fun s5 s14 wr=>∃ k:Nat,k ≤ cn ∧ s14 = .int .i64 k ∧ s5 = .int .i64 (confT T ch cn k) ∧ Hid ((Up w wr ∧ Box wr w.heap.size #[.pointer (some ⟨PB,0,none⟩)] 105) ∧ PlanT wr PB MB oa on oc cn T)) (fun _ s14 _=>cn - (intOf s14).toNat)
 case atStart=>exact ⟨0,by omega,rfl,rfl,H0⟩
 case round =>
  obtain ⟨k,hk,rfl,rfl,HI⟩:=hrel
  clear H0
  have hcl:=confT_le T ch cn k
  by_cases hlt:k < cn
  · have hkb:decide ((k:Int) < cn) = true:=by simp;omega
    have hkn:decide (k < cn) = true:=by simp;omega
    have p0:=HI.out.1.2.cell 0 rfl
    have lp:=HI.out.1.2.lt
    have q1:=HI.out.2.p.cell 1 rfl
    have lq:=HI.out.2.p.lt
    have HM:=hide (confT_succ T ch cn k)
    go_wp2_with fail
    obtain ⟨bi,hbi⟩:∃ g,g = wr.heap.size:=⟨_,rfl⟩
    try rw [← hbi]
    refine forgetW (fun V=>((Up w V ∧ Box V w.heap.size #[.pointer (some ⟨PB,0,none⟩)] 105) ∧ PlanT V PB MB oa on oc cn T) ∧ Box V bi #[.int .i64 k] 3) ⟨⟨⟨(by repeat (first | with_reducible exact HI.out.1.1 | with_reducible exact Up.refl _ | with_reducible apply Up.ext | with_reducible apply Up.alloc | with_reducible apply Up.drew | (with_reducible refine Up.setCell ?_ (by simp only;omega) _))),HI.out.1.2.up (by repeat (first | with_reducible exact Up.refl _ | with_reducible apply Up.plus | apply Up.ext | apply Up.alloc | apply Up.drew | (refine Up.setCell ?_ (by simp;try omega) _)))⟩,HI.out.2.up (by repeat (first | with_reducible exact Up.refl _ | with_reducible apply Up.plus | apply Up.ext | apply Up.alloc | apply Up.drew | (refine Up.setCell ?_ (by simp;try omega) _)))⟩,by rw [hbi];exact (by repeat (first | exact Box.mk rfl | (refine Box.mk ?_;simp;done) | apply Box.ext | apply Box.drew | apply Box.alloc | apply Box.two1 | (refine Box.other ?_ (by omega) _ _)))⟩ ?_
    clear hbi p0 lp q1 lq HI
    intro V1 h1
    have H1:=hide h1
    clear h1
    go_loopw [7,21] (fun s7 s21 wr=>∃ j:Nat,j ≤ cn ∧ s21 = .int .i64 j ∧ s7 = .int .i64 (cntT T ch k j) ∧ Hid (((Up w wr ∧ Box wr w.heap.size #[.pointer (some ⟨PB,0,none⟩)] 105) ∧ PlanT wr PB MB oa on oc cn T) ∧ Box wr bi #[.int .i64 k] 3)) (fun _ s21 _=>cn - (intOf s21).toNat)
    case atStart=>exact ⟨0,by omega,rfl,rfl,H1⟩
    case round =>
     obtain ⟨j,hj,rfl,rfl,HJ⟩:=hrel
     clear H1
     have hcj:=cntT_le T ch k j
     by_cases hlj:j < cn
     · have hjb:decide ((j:Int) < cn) = true:=by simp;omega
       have hjn:decide (j < cn) = true:=by simp;omega
       have hsu:=cntT_succ T ch k j
       have i00:=HJ.out.2.cell 0 rfl
       have li:=HJ.out.2.lt
       by_cases hkj:k = j
       · have hb1:((k:Int) == (j:Int)) = true:=by simp;omega
         have HS:=hide (show cntT T ch k (j + 1) = cntT T ch k j + 1 by rw [hsu,show mixT T ch k j = true by unfold mixT;rw [decide_eq_true (by omega)];rfl,if_pos rfl])
         clear hsu hkj
         go_wp2_with fail
         go_roundw
         case rel=>exact ⟨j + 1,by omega,by go_num,by rw [HS.out];go_num,hide ⟨⟨⟨(by repeat (first | with_reducible exact HJ.out.1.1.1 | with_reducible exact Up.refl _ | with_reducible apply Up.ext | with_reducible apply Up.alloc | with_reducible apply Up.drew | (with_reducible refine Up.setCell ?_ (by simp only;omega) _))),HJ.out.1.1.2.up (by repeat (first | with_reducible exact Up.refl _ | with_reducible apply Up.plus | apply Up.ext | apply Up.alloc | apply Up.drew | (refine Up.setCell ?_ (by simp;try omega) _)))⟩,HJ.out.1.2.up (by repeat (first | with_reducible exact Up.refl _ | with_reducible apply Up.plus | apply Up.ext | apply Up.alloc | apply Up.drew | (refine Up.setCell ?_ (by simp;try omega) _)))⟩,HJ.out.2.up (by repeat (first | with_reducible exact Up.refl _ | with_reducible apply Up.plus | apply Up.ext | apply Up.alloc | apply Up.drew | (refine Up.setCell ?_ (by simp;try omega) _)))⟩⟩
         case measure=>simp [intOf];omega
       · have hb1:((k:Int) == (j:Int)) = false:=by simp;omega
         have HC2:=hide (HC.out k j (by omega) (by omega) (by omega) (by omega))
         have hmx:mixT T ch k j = !(ch.any (apartT T k j)):=by unfold mixT;rw [decide_eq_false (by omega)];rfl
         rw [hmx] at hsu
         generalize ch.any (apartT T k j) = A at HC2 hsu
         cases A
         · have HS:=hide (show cntT T ch k (j + 1) = cntT T ch k j + 1 by rw [hsu];rfl)
           clear hsu hkj hmx
           go_wp2_with fail
           go_at_call 134
           obtain ⟨bk,hbk⟩:∃ g,g = wr.heap.size:=⟨_,rfl⟩
           try rw [← hbk]
           refine forgetK (fun V=>(((Up w V ∧ Box V w.heap.size #[.pointer (some ⟨PB,0,none⟩)] 105) ∧ PlanT V PB MB oa on oc cn T) ∧ Box V bi #[.int .i64 k] 3) ∧ Box V bk #[.int .i64 j] 3) ⟨⟨⟨⟨(by repeat (first | with_reducible exact HJ.out.1.1.1 | with_reducible exact Up.refl _ | with_reducible apply Up.ext | with_reducible apply Up.alloc | with_reducible apply Up.drew | (with_reducible refine Up.setCell ?_ (by simp only;omega) _))),HJ.out.1.1.2.up (by repeat (first | with_reducible exact Up.refl _ | with_reducible apply Up.plus | apply Up.ext | apply Up.alloc | apply Up.drew | (refine Up.setCell ?_ (by simp;try omega) _)))⟩,HJ.out.1.2.up (by repeat (first | with_reducible exact Up.refl _ | with_reducible apply Up.plus | apply Up.ext | apply Up.alloc | apply Up.drew | (refine Up.setCell ?_ (by simp;try omega) _)))⟩,HJ.out.2.up (by repeat (first | with_reducible exact Up.refl _ | with_reducible apply Up.plus | apply Up.ext | apply Up.alloc | apply Up.drew | (refine Up.setCell ?_ (by simp;try omega) _)))⟩,by rw [hbk];exact (by repeat (first | exact Box.mk rfl | (refine Box.mk ?_;simp;done) | apply Box.ext | apply Box.drew | apply Box.alloc | apply Box.two1 | (refine Box.other ?_ (by omega) _ _)))⟩ ?_
           clear hbk HJ i00 li
           intro V2 h2
           have HJ:=hide h2.1
           refine (HC2.out V2 h2.1.1.1.1 w.heap.size bi bk h2.1.1.1.2 h2.1.2 h2.2).mono ?_
           clear h2
           intro q1
           go_wp2_with fail
           go_roundw
           case rel=>exact ⟨j + 1,by omega,by go_num,by rw [HS.out];go_num,hide ⟨⟨⟨(by repeat (first | with_reducible exact HJ.out.1.1.1 | with_reducible exact Up.refl _ | with_reducible apply Up.ext | with_reducible apply Up.alloc | with_reducible apply Up.drew | (with_reducible refine Up.setCell ?_ (by simp only;omega) _))),HJ.out.1.1.2.up (by repeat (first | with_reducible exact Up.refl _ | with_reducible apply Up.plus | apply Up.ext | apply Up.alloc | apply Up.drew | (refine Up.setCell ?_ (by simp;try omega) _)))⟩,HJ.out.1.2.up (by repeat (first | with_reducible exact Up.refl _ | with_reducible apply Up.plus | apply Up.ext | apply Up.alloc | apply Up.drew | (refine Up.setCell ?_ (by simp;try omega) _)))⟩,HJ.out.2.up (by repeat (first | with_reducible exact Up.refl _ | with_reducible apply Up.plus | apply Up.ext | apply Up.alloc | apply Up.drew | (refine Up.setCell ?_ (by simp;try omega) _)))⟩⟩
           case measure=>simp [intOf];omega
         · have HS:=hide (show cntT T ch k (j + 1) = cntT T ch k j by rw [hsu];rfl)
           clear hsu hkj hmx
           go_wp2_with fail
           go_at_call 134
           obtain ⟨bk,hbk⟩:∃ g,g = wr.heap.size:=⟨_,rfl⟩
           try rw [← hbk]
           refine forgetK (fun V=>(((Up w V ∧ Box V w.heap.size #[.pointer (some ⟨PB,0,none⟩)] 105) ∧ PlanT V PB MB oa on oc cn T) ∧ Box V bi #[.int .i64 k] 3) ∧ Box V bk #[.int .i64 j] 3) ⟨⟨⟨⟨(by repeat (first | with_reducible exact HJ.out.1.1.1 | with_reducible exact Up.refl _ | with_reducible apply Up.ext | with_reducible apply Up.alloc | with_reducible apply Up.drew | (with_reducible refine Up.setCell ?_ (by simp only;omega) _))),HJ.out.1.1.2.up (by repeat (first | with_reducible exact Up.refl _ | with_reducible apply Up.plus | apply Up.ext | apply Up.alloc | apply Up.drew | (refine Up.setCell ?_ (by simp;try omega) _)))⟩,HJ.out.1.2.up (by repeat (first | with_reducible exact Up.refl _ | with_reducible apply Up.plus | apply Up.ext | apply Up.alloc | apply Up.drew | (refine Up.setCell ?_ (by simp;try omega) _)))⟩,HJ.out.2.up (by repeat (first | with_reducible exact Up.refl _ | with_reducible apply Up.plus | apply Up.ext | apply Up.alloc | apply Up.drew | (refine Up.setCell ?_ (by simp;try omega) _)))⟩,by rw [hbk];exact (by repeat (first | exact Box.mk rfl | (refine Box.mk ?_;simp;done) | apply Box.ext | apply Box.drew | apply Box.alloc | apply Box.two1 | (refine Box.other ?_ (by omega) _ _)))⟩ ?_
           clear hbk HJ i00 li
           intro V2 h2
           have HJ:=hide h2.1
           refine (HC2.out V2 h2.1.1.1.1 w.heap.size bi bk h2.1.1.1.2 h2.1.2 h2.2).mono ?_
           clear h2
           intro q1
           go_wp2_with fail
           go_roundw
           case rel=>exact ⟨j + 1,by omega,by go_num,by rw [HS.out],hide ⟨⟨⟨(by repeat (first | with_reducible exact HJ.out.1.1.1 | with_reducible exact Up.refl _ | with_reducible apply Up.ext | with_reducible apply Up.alloc | with_reducible apply Up.drew | (with_reducible refine Up.setCell ?_ (by simp only;omega) _))),HJ.out.1.1.2.up (by repeat (first | with_reducible exact Up.refl _ | with_reducible apply Up.plus | apply Up.ext | apply Up.alloc | apply Up.drew | (refine Up.setCell ?_ (by simp;try omega) _)))⟩,HJ.out.1.2.up (by repeat (first | with_reducible exact Up.refl _ | with_reducible apply Up.plus | apply Up.ext | apply Up.alloc | apply Up.drew | (refine Up.setCell ?_ (by simp;try omega) _)))⟩,HJ.out.2.up (by repeat (first | with_reducible exact Up.refl _ | with_reducible apply Up.plus | apply Up.ext | apply Up.alloc | apply Up.drew | (refine Up.setCell ?_ (by simp;try omega) _)))⟩⟩
           case measure=>simp [intOf];omega
     · have hjb:decide ((j:Int) < cn) = false:=by simp;omega
       have hjn:decide (j < cn) = false:=by simp;omega
       obtain rfl:j = cn:=by omega
       go_wp2_with fail
       go_roundw
       case rel=>exact ⟨k + 1,by omega,by go_num,by rw [HM.out];go_num,hide HJ.out.1⟩
       case measure=>simp [intOf];omega
  · have hkb:decide ((k:Int) < cn) = false:=by simp;omega
    have hkn:decide (k < cn) = false:=by simp;omega
    obtain rfl:k = cn:=by omega
    go_wp2
    go_ret
    exact ⟨rfl,(by repeat (first | with_reducible exact HI.out.1.1 | with_reducible exact Up.refl _ | with_reducible apply Up.ext | with_reducible apply Up.alloc | with_reducible apply Up.drew | (with_reducible refine Up.setCell ?_ (by simp only;omega) _)))⟩
end Go.Proofs.YteafglginnonnaaGreat
/- Package watch: what a choice proves at the worst. Conditions: what lies in memory. -/
namespace Go.Proofs.YteafglginnonnaaGreat
set_option linter.unusedVariables false
set_option linter.unusedSimpArgs false
open Go.RowKit Go.Shelf
def worstT (T:Int → Int → VwD) (su:Int → Bool) (cn:Nat):Nat → List Int → Nat
 | 0,ch=>confT T ch cn cn
 | f + 1,ch=>(List.range ch.length).foldl (fun m i=>if su (ch.getD i 0) = true then m else max m (worstT T su cn f (ch.eraseIdx i))) (confT T ch cn cn)
def wstepT (T:Int → Int → VwD) (su:Int → Bool) (cn f:Nat) (ch:List Int) (k:Nat):Nat :=
 (List.range k).foldl (fun m i=>if su (ch.getD i 0) = true then m else max m (worstT T su cn f (ch.eraseIdx i))) (confT T ch cn cn)
theorem worstT_zero (T:Int → Int → VwD) (su:Int → Bool) (cn:Nat) (ch:List Int):worstT T su cn 0 ch = confT T ch cn cn:=rfl
theorem wstepT_zero (T:Int → Int → VwD) (su:Int → Bool) (cn f:Nat) (ch:List Int):wstepT T su cn f ch 0 = confT T ch cn cn:=rfl
theorem wstepT_all (T:Int → Int → VwD) (su:Int → Bool) (cn f:Nat) (ch:List Int):worstT T su cn (f + 1) ch = wstepT T su cn f ch ch.length:=rfl
theorem wstepT_succ (T:Int → Int → VwD) (su:Int → Bool) (cn f:Nat) (ch:List Int) (k:Nat):wstepT T su cn f ch (k + 1) = if su (ch.getD k 0) = true then wstepT T su cn f ch k else max (wstepT T su cn f ch k) (worstT T su cn f (ch.eraseIdx k)):=by
 unfold wstepT
 rw [List.range_succ,List.foldl_append]
 rfl
theorem worstT_le (T:Int → Int → VwD) (su:Int → Bool) (cn:Nat):∀ f ch,worstT T su cn f ch ≤ cn
 | 0,ch=>confT_le T ch cn cn
 | f + 1,ch=>by
  rw [wstepT_all]
  generalize ch.length = k
  induction k with
  | zero=>rw [wstepT_zero];exact confT_le T ch cn cn
  | succ k ih =>
   rw [wstepT_succ]
   have:=worstT_le T su cn f (ch.eraseIdx k)
   split <;> omega
attribute [irreducible] wstepT worstT
def sureO (offers:List OffD) (o:Int):Bool:=((offers[o.toNat]?).map (·.sure)).getD false
abbrev DelC:Prop:=∀ {w w1:World},Up w w1 → ∀ {l:List Int} {g cap:Nat},Own TInt 3 w.heap.size w1 (.slice (some ⟨g,0,none⟩) l.length cap) l → ∀ {i:Nat},i < l.length →
 Calls Tryz.prog 91 #[.slice (some ⟨g,0,none⟩) l.length cap,.int .i64 i,.int .i64 (i + 1:Nat)] w1 fun e W=>e = .returned (.slice (some ⟨g,0,none⟩) (l.length - 1) cap) ∧ Up w W ∧ Own TInt 3 w.heap.size W (.slice (some ⟨g,0,none⟩) (l.length - 1) cap) (l.eraseIdx i)
theorem ixs (k:Nat):Value.int .i64 ((k:Int) + 1) = .int .i64 ((k + 1:Nat):Int):=by rw [Int.natCast_add];rfl
theorem mxs (a b:Nat):Value.int .i64 (max (a:Int) b) = .int .i64 ((max a b:Nat):Int):=by congr 1;omega
set_option maxRecDepth 100000 in
set_option maxHeartbeats 20000000 in
theorem wworst_any (HD:DelC) {PB MB:Nat} {oa:Option Addr} {on oc cn:Nat} {T:Int → Int → VwD} {offers:List OffD}:∀ (f:Nat),f ≤ 1000 → ∀ {w:World} {KO K:Nat → Prop} {ca:Option Addr} {n c:Nat} {ch:List Int},
 PlanT w PB MB oa on oc cn T → Lst TOff KO w (.slice oa on oc) offers → Lst TInt K w (.slice ca n c) ch → (∀ o ∈ ch,0 ≤ o ∧ o < on) → ch.length ≤ 1000 →
 Gives Tryz.prog 48 #[.pointer (some ⟨PB,0,none⟩),.slice ca n c,.int .i64 f] w (.int .i64 (worstT T (sureO offers) cn f ch))
 | 0,hf,w,KO,K,ca,n,c,ch,hP,hO,hc,hr,hn=>by
  have HC:=hide (wconf_any hP hc hr)
  clear hP hO hc hr
  rw [worstT_zero]
  (unfold Gives;go_enter Tryz.func48,Tryz.ntmps48)
  go_wp2_with (go_at_call 90;refine (HC.out).mono ?_;intro _)
  go_ret
  exact ⟨rfl,(by repeat (first | with_reducible exact Up.refl _ | with_reducible apply Up.plus | apply Up.ext | apply Up.alloc | apply Up.drew | (refine Up.setCell ?_ (by simp;try omega) _)))⟩
 | f + 1,hf,w,KO,K,ca,n,c,ch,hP,hO,hc,hr,hn=>by
  obtain ⟨m0,hm0⟩:∃ m0:Nat,m0 = confT T ch cn cn:=⟨_,rfl⟩
  have hm0c:m0 ≤ cn:=by rw [hm0];exact confT_le T ch cn cn
  have HC:=hide (wconf_any hP hc hr)
  rw [← hm0] at HC
  have HR:=hide (fun (W:World) (hu:Up w W) (g cap:Nat) (l:List Int) (hL:Lst TInt (fun _=>True) W (.slice (some ⟨g,0,none⟩) l.length cap) l) (h1:∀ o ∈ l,0 ≤ o ∧ o < on) (h2:l.length ≤ 1000) =>
   wworst_any HD f (by omega) (hP.up hu) (hO.up hu) hL h1 h2)
  have HA:=hide (And.intro hP (And.intro hO (And.intro hc hr)))
  have hcn:=(Ints.at hc).1
  have hon:=(Offs.at hO).1
  have hct:=hP.n
  have HN:=hide (And.intro hcn (And.intro hon hn))
  have hnn:n ≤ 1000:=by omega
  clear hP hO hc hr hcn hon hn
  rw [wstepT_all]
  obtain ⟨R,hR⟩:∃ R:Nat,R = wstepT T (sureO offers) cn f ch ch.length:=⟨_,rfl⟩
  have HS0:=hide (show m0 = wstepT T (sureO offers) cn f ch 0 by rw [wstepT_zero];exact hm0)
  rw [← hR]
  have HRR:=hide hR
  clear hR hm0
  have hf0:decide (((f:Nat):Int) + 1 = 0) = false:=by simp;omega
  have hf1:¬ (((f:Nat):Int) + 1 = 0):=by omega
  have hf2:(((f:Nat):Int) + 1 == 0) = false:=by simp;omega
  (unfold Gives;go_enter Tryz.func48,Tryz.ntmps48)
  go_wp2_with (go_at_call 90;refine (HC.out).mono ?_;intro _)
  go_loopw [7,18] (fun s7 s18 wr=>∃ k m:Nat,k ≤ n ∧ m ≤ cn ∧ s18 = .int .i64 k ∧ s7 = .int .i64 m ∧ Hid (m = wstepT T (sureO offers) cn f ch k) ∧ Up w wr) (fun _ s18 _=>n - (intOf s18).toNat)
  case atStart=>exact ⟨0,m0,by omega,by omega,rfl,rfl,HS0,(by repeat (first | with_reducible exact Up.refl _ | with_reducible apply Up.plus | apply Up.ext | apply Up.alloc | apply Up.drew | (refine Up.setCell ?_ (by simp;try omega) _)))⟩
  case round =>
   obtain ⟨k,m,hk,hmc,rfl,rfl,HM,hu⟩:=hrel
   clear HS0 hm0c
   by_cases hlt:k < n
   · have hkb:decide ((k:Int) < n) = true:=by simp;omega
     have hkn:decide (k < n) = true:=by simp;omega
     obtain ⟨b,o,p,rfl,hKb,hbw,hp,hc0⟩:=(Ints.at (HA.out.2.2.1.keeps (hu.keeps K))).2.2 k hlt
     have hpm:=HA.out.2.2.2 p (List.mem_of_getElem? hp)
     obtain ⟨q,rfl⟩:=Int.eq_ofNat_of_zero_le hpm.1
     have hqn:q < on:=by omega
     obtain ⟨b2,o2,x,rfl,hKb2,hb2w,hx,-,-,-,-,-,-,-,-,-,-,hs0⟩:=(Offs.at (HA.out.2.1.keeps (hu.keeps KO))).2.2 q hqn
     have q0:=(HA.out.1.up hu).p.cell 0 rfl
     have lq:=(HA.out.1.up hu).p.lt
     have hg:ch.getD k 0 = (q:Int):=by rw [List.getD,hp];rfl
     have hsu:sureO offers (ch.getD k 0) = x.sure:=by unfold sureO;rw [hg,Int.toNat_natCast,hx];rfl
     have hst:=wstepT_succ T (sureO offers) cn f ch k
     rw [hsu] at hst
     have HU:=hide hu
     have hkl:k < ch.length:=by rw [← HN.out.1];exact hlt
     rcases hxs:x.sure with _ | _
     · rw [hxs] at hs0 hst
       rw [if_neg (by decide)] at hst
       have h0:ch ≠ []:=by intro e;subst e;simp at hkl
       have HCL:=hide (iclone_any (HA.out.2.2.1.keeps (hu.keeps K)) h0 (by have:=HN.out.2.2;omega))
       obtain ⟨m1,hm1⟩:∃ m1:Nat,m1 = worstT T (sureO offers) cn f (ch.eraseIdx k):=⟨_,rfl⟩
       have hm1c:m1 ≤ cn:=by rw [hm1];exact worstT_le T (sureO offers) cn f (ch.eraseIdx k)
       have HS:=hide (show max m m1 = wstepT T (sureO offers) cn f ch (k + 1) by rw [hst,hm1,HM.out])
       have HM1:=hide hm1
       have HL:=hide hkl
       clear hp hx hKb hKb2 hg hsu hst hxs hkl h0 hu hpm hm1 HM
       go_wp2_with fail
       go_at_call 92
       refine HCL.out.mono ?_
       rintro _ _ ⟨g,cap,px,rfl,ho1,rfl⟩
       have HD1:=hide (HD ((Up.refl wr).ext px) ho1 HL.out)
       clear ho1
       go_wp2_with fail
       go_at_call 91
       refine (show Calls Tryz.prog 91 _ _ _ from HD1.out).mono ?_
       rintro _ W2 ⟨rfl,hu2,ho2⟩
       have hel:(ch.eraseIdx k).length = ch.length - 1:=List.length_eraseIdx_of_lt HL.out
       have HR1:=HR.out W2 (HU.out.trans hu2) g cap (ch.eraseIdx k) (by rw [hel];exact (ho2.lies (by rw [hel];have:=HN.out.2.2;omega)).mono fun _ _ _=>trivial) (fun o ho=>HA.out.2.2.2 o (List.mem_of_mem_eraseIdx ho)) (by have:=HN.out.2.2;omega)
       rw [← HM1.out,hel] at HR1
       have HR2:=hide HR1
       have HU2:=hide (HU.out.trans hu2)
       clear HR1 hel ho2 hu2 HD1 HCL
       go_wp2_with (go_at_call 48;refine (HR2.out).mono ?_;intro _)
       go_roundw
       case rel =>
        exact ⟨k + 1,max m m1,by omega,by omega,ixs k,mxs m m1,HS,HU2.out.ext _⟩
       case measure=>simp [intOf];omega
     · rw [hxs] at hs0 hst
       rw [if_pos rfl] at hst
       have HS:=hide (HM.out.trans hst.symm)
       clear hp hx hKb hKb2 hg hsu hst hxs hu hpm HM
       go_wp2_with fail
       go_roundw
       case rel=>exact ⟨k + 1,m,by omega,hmc,ixs k,rfl,HS,HU.out⟩
       case measure=>simp [intOf];omega
   · have hkb:decide ((k:Int) < n) = false:=by simp;omega
     obtain rfl:k = n:=by omega
     have hRm:R = m:=by rw [HRR.out,HM.out,HN.out.1]
     clear HRR HM
     go_wp2_with fail
     go_ret
     exact ⟨by rw [hRm];rfl,hu⟩
end Go.Proofs.YteafglginnonnaaGreat
/- Package watch: the error of a choice. Conditions: what lies in memory. -/
namespace Go.Proofs.YteafglginnonnaaGreat
set_option linter.unusedVariables false
set_option linter.unusedSimpArgs false
open Go.RowKit Go.Shelf
def chBad (on:Nat) (l:List Int) (i:Nat):Bool:=decide (l.getD i 0 < 0) || decide ((on:Int) ≤ l.getD i 0) || (decide (0 < i) && decide (l.getD i 0 ≤ l.getD (i - 1) 0))
def chE (on:Nat) (l:List Int):Int:=if (List.range l.length).all fun i=>!chBad on l i then 0 else 7
theorem chE_bad {on:Nat} {l:List Int} {k:Nat} (hk:k < l.length) (h:chBad on l k = true):chE on l = 7:=by
 unfold chE
 rw [if_neg]
 intro h1
 have:=List.all_eq_true.1 h1 k (List.mem_range.2 hk)
 rw [h] at this
 simp at this
theorem chE_ok {on:Nat} {l:List Int} (h:∀ i,i < l.length → chBad on l i = false):chE on l = 0:=by
 unfold chE
 rw [if_pos]
 exact List.all_eq_true.2 fun i hi=>by rw [h i (List.mem_range.1 hi)];rfl
set_option maxRecDepth 100000 in
set_option maxHeartbeats 8000000 in
theorem wchk_any {w:World} {oa:Option Addr} {on oc:Nat} (hon:on ≤ 1000000) {K:Nat → Prop} {a:Option Addr} {n c:Nat} {l:List Int} (hl:Lst TInt K w (.slice a n c) l) :
 Gives Tryz.prog 46 #[.slice oa on oc,.slice a n c] w (.int .i64 (chE on l)):=by
 have hn:=(Ints.at hl).1
 have hm:=(Ints.at hl).2.1
 have HF:=hide hl
 have HN:=hide hn
 clear hl hn
 (unfold Gives;go_enter Tryz.func46,Tryz.ntmps46)
 go_wp2
 go_loopw [9] (fun s9 wr=>∃ k:Nat,k ≤ n ∧ s9 = .int .i64 k ∧ Up w wr ∧ Hid (∀ i,i < k → chBad on l i = false)) (fun s9 _=>n - (intOf s9).toNat)
 case atStart=>exact ⟨0,by omega,rfl,Up.refl _,hide (fun i hi=>by omega)⟩
 case round =>
  obtain ⟨k,hk,rfl,hu,hb⟩:=hrel
  by_cases hlt:k < n
  · obtain ⟨b,o,p,rfl,hKb,hbw,hp,hc0⟩:=(Ints.at (HF.out.keeps (hu.keeps K))).2.2 k hlt
    have hkb:decide ((k:Int) < n) = true:=by simp;omega
    have HP:=hide (show l.getD k 0 = p by rw [List.getD,hp];rfl)
    have HU:=hide hu
    by_cases h1:p < 0
    · have d1:decide (p < 0) = true:=decide_eq_true h1
      have HB:=hide (chE_bad (on:=on) (HN.out ▸ hlt) (show chBad on l k = true by unfold chBad;rw [HP.out];simp [h1]))
      clear hp hu hKb
      go_wp2
      go_ret
      exact ⟨by rw [HB.out];rfl,HU.out⟩
    have d1:decide (p < 0) = false:=decide_eq_false h1
    by_cases h2:(on:Int) ≤ p
    · have d2:decide ((on:Int) ≤ p) = true:=decide_eq_true h2
      have HB:=hide (chE_bad (on:=on) (HN.out ▸ hlt) (show chBad on l k = true by unfold chBad;rw [HP.out];simp [h2]))
      clear hp hu hKb
      go_wp2
      go_ret
      exact ⟨by rw [HB.out];rfl,HU.out⟩
    have d2:decide ((on:Int) ≤ p) = false:=decide_eq_false h2
    by_cases h3:k = 0
    · have h30:¬ (0 < k):=by omega
      have h31:¬ ((0:Int) < k):=by omega
      have HB:=hide (show chBad on l k = false by unfold chBad;rw [HP.out];simp [h3,h1];omega)
      clear hp hu hKb h3
      go_wp2
      refine ⟨⟨k + 1,by omega,by go_num,HU.out,hide fun i hi=>?_⟩,by simp [intOf];omega⟩
      rcases Nat.lt_or_ge i k with h | h
      · exact hb.out i h
      · rw [show i = k by omega]
        exact HB.out
    have d3:decide ((0:Int) < k) = true:=decide_eq_true (by omega)
    have d3n:decide (0 < k) = true:=decide_eq_true (by omega)
    have hkn:decide (k < n) = true:=decide_eq_true hlt
    obtain ⟨b',o',q,hbo,hKq,hbq,hq,hq0⟩:=(Ints.at (HF.out.keeps (hu.keeps K))).2.2 (k - 1) (by omega)
    simp at hbo
    obtain ⟨rfl,rfl⟩:=hbo
    have HQ:=hide (show l.getD (k - 1) 0 = q by rw [List.getD,hq];rfl)
    have e1:((k:Int) - 1).toNat = k - 1:=by omega
    by_cases h4:p ≤ q
    · have d4:decide (p ≤ q) = true:=decide_eq_true h4
      have HB:=hide (chE_bad (on:=on) (HN.out ▸ hlt) (show chBad on l k = true by unfold chBad;rw [HP.out,HQ.out];simp [h4];omega))
      clear hp hu hKb hKq hq
      go_wp2
      go_ret
      exact ⟨by rw [HB.out];rfl,HU.out⟩
    · have d4:decide (p ≤ q) = false:=decide_eq_false h4
      have HB:=hide (show chBad on l k = false by unfold chBad;rw [HP.out,HQ.out];simp [h1,h4];omega)
      clear hp hu hKb hKq hq
      go_wp2
      refine ⟨⟨k + 1,by omega,by go_num,HU.out,hide fun i hi=>?_⟩,by simp [intOf];omega⟩
      rcases Nat.lt_or_ge i k with h | h
      · exact hb.out i h
      · rw [show i = k by omega]
        exact HB.out
  · have hkb:decide ((k:Int) < n) = false:=by simp;omega
    obtain rfl:k = n:=by omega
    go_wp2
    go_ret
    exact ⟨by rw [chE_ok (by rw [← HN.out];exact hb.out)];rfl,hu⟩
end Go.Proofs.YteafglginnonnaaGreat
/- Package watch: the views of a checked watch, as a table; what a choice that is right means. Conditions: a valid watch. -/
namespace Go.Proofs.YteafglginnonnaaGreat
set_option linter.unusedVariables false
set_option linter.unusedSimpArgs false
open Go.RowKit Go.Shelf
def tabV (s:SkyD) (d:DriftD) (t:Int) (set:List BoxD) (offers:List OffD) (o k:Int):VwD :=
 match offers[o.toNat]? with
 | none=>(false,false,0,0)
 | some x=>match (cellsO s d t set x)[k.toNat]? with
  | none=>(false,false,0,0)
  | some b=>viewK (kndOf s x) (cellA b)
theorem rowE_at {s:SkyD} {d:DriftD} {t:Int} {set:List BoxD} {i:Nat} {o:OffD} {q:Nat} {x:Ent} (h:(rowE s d t set i o)[q]? = some x):∃ b,(cellsO s d t set o)[q]? = some b ∧ x = ((i:Int),(q:Int),viewK (kndOf s o) (cellA b)):=by
 unfold rowE at h
 rw [List.getElem?_mapIdx] at h
 obtain ⟨b,hb,rfl⟩:=Option.map_eq_some_iff.1 h
 exact ⟨b,hb,rfl⟩
theorem tabE_mem {s:SkyD} {d:DriftD} {t:Int} {set:List BoxD} {offers:List OffD} {x:Ent} (hx:x ∈ tabE s d t set offers):∃ (i:Nat) (o:OffD) (q:Nat) (b:BoxD),offers[i]? = some o ∧ (cellsO s d t set o)[q]? = some b ∧ x = ((i:Int),(q:Int),viewK (kndOf s o) (cellA b)):=by
 unfold tabE at hx
 obtain ⟨row,hrow,hx⟩:=List.mem_flatten.1 hx
 obtain ⟨i,hi,rfl⟩:=List.getElem_of_mem hrow
 rw [List.getElem_mapIdx] at hx
 obtain ⟨q,hq,hxq⟩:=List.getElem_of_mem hx
 obtain ⟨b,hb,e⟩:=rowE_at (x:=x) (q:=q) (by rw [List.getElem?_eq_getElem hq,hxq])
 exact ⟨i,_,q,b,List.getElem?_eq_getElem (by simpa using hi),hb,e⟩
theorem mem_tabE {s:SkyD} {d:DriftD} {t:Int} {set:List BoxD} {offers:List OffD} {i:Nat} {o:OffD} {q:Nat} {b:BoxD} (ho:offers[i]? = some o) (hb:(cellsO s d t set o)[q]? = some b):((i:Int),(q:Int),viewK (kndOf s o) (cellA b)) ∈ tabE s d t set offers:=by
 unfold tabE
 refine List.mem_flatten.2 ⟨rowE s d t set i o,?_,?_⟩
 · exact List.mem_of_getElem? (i:=i) (by rw [List.getElem?_mapIdx,ho];rfl)
 · refine List.mem_of_getElem? (i:=q) ?_
   unfold rowE
   rw [List.getElem?_mapIdx,hb]
   rfl
theorem tabV_at {s:SkyD} {d:DriftD} {t:Int} {set:List BoxD} {offers:List OffD} {i:Nat} {o:OffD} {q:Nat} {b:BoxD} (ho:offers[i]? = some o) (hb:(cellsO s d t set o)[q]? = some b):tabV s d t set offers i q = viewK (kndOf s o) (cellA b):=by
 unfold tabV
 rw [Int.toNat_natCast,ho]
 dsimp only
 rw [Int.toNat_natCast,hb]
theorem planT_of {s:SkyD} {d:DriftD} {t:Int} {set:List BoxD} {offers:List OffD} (hW:watchE s d t set offers = 0) {W:World} {PB MB:Nat} {oa:Option Addr} {on oc bn:Nat} (hb:Box W PB #[.slice oa on oc,.int .i64 bn,.map (some MB)] 143) (hm:MapV W MB (tabE s d t set offers)) (hon:on = offers.length) (hbn:bn = set.length) :
 PlanT W PB MB oa on oc bn (tabV s d t set offers):=by
 obtain ⟨_,_,⟨h1,h2⟩,h3⟩:=watchE_zero hW
 refine ⟨hb,⟨_,hm,?_,?_⟩,by omega⟩
 · intro x hx
   obtain ⟨i,o,q,b,ho,hq,rfl⟩:=tabE_mem hx
   have i1:=(List.getElem?_eq_some_iff.1 ho).1
   have q1:=(List.getElem?_eq_some_iff.1 hq).1
   have q2:=(offW_zero (h3 o (List.mem_of_getElem? ho))).2.2.2.2
   dsimp only
   unfold I64
   omega
 · intro i k i0 i1 k0 k1
   obtain ⟨i,rfl⟩:=Int.eq_ofNat_of_zero_le i0
   obtain ⟨k,rfl⟩:=Int.eq_ofNat_of_zero_le k0
   obtain ⟨o,ho⟩:∃ o,offers[i]? = some o:=⟨_,List.getElem?_eq_getElem (by omega)⟩
   have q2:=(offW_zero (h3 o (List.mem_of_getElem? ho))).2.2.2.2
   obtain ⟨b,hb⟩:∃ b,(cellsO s d t set o)[k]? = some b:=⟨_,List.getElem?_eq_getElem (by omega)⟩
   refine ⟨?_,?_⟩
   · have:=mem_tabE ho hb
     rw [← tabV_at ho hb] at this
     exact this
   · intro x hx e1 e2
     obtain ⟨i',o',q',b',ho',hq',rfl⟩:=tabE_mem hx
     dsimp only at e1 e2 ⊢
     obtain rfl:i' = i:=by omega
     obtain rfl:q' = k:=by omega
     rw [ho] at ho'
     cases ho'
     rw [hb] at hq'
     cases hq'
     rw [tabV_at ho hb]
theorem chE_two (on:Nat) (l:List Int):chE on l = 0 ∨ chE on l = 7:=by
 unfold chE
 split
 · exact .inl rfl
 · exact .inr rfl
theorem chE_good {on:Nat} {l:List Int} (h:chE on l = 0):∀ i,i < l.length → chBad on l i = false:=fun i hi=>by
 rcases hb:chBad on l i with _ | _
 · rfl
 · rw [chE_bad hi hb] at h;cases h
theorem chBad_no {on:Nat} {l:List Int} {i:Nat} (h:chBad on l i = false):(0 ≤ l.getD i 0 ∧ l.getD i 0 < on) ∧ (0 < i → l.getD (i - 1) 0 < l.getD i 0):=by
 unfold chBad at h
 simp only [Bool.or_eq_false_iff,Bool.and_eq_false_iff,decide_eq_false_iff_not] at h
 omega
theorem chE_ge {on:Nat} {l:List Int} (h:chE on l = 0):∀ i:Nat,i < l.length → (i:Int) ≤ l.getD i 0
 | 0,hi=>(chBad_no (chE_good h 0 hi)).1.1
 | i + 1,hi=>by
  have h1:=chE_ge h i (by omega)
  have h2:=(chBad_no (chE_good h (i + 1) hi)).2 (by omega)
  rw [Nat.add_sub_cancel] at h2
  omega
theorem chE_zero {on:Nat} {l:List Int} (h:chE on l = 0):(∀ o ∈ l,0 ≤ o ∧ o < on) ∧ l.length ≤ on:=by
 refine ⟨fun o ho=>?_,?_⟩
 · obtain ⟨i,hi,rfl⟩:=List.getElem_of_mem ho
   have:=(chBad_no (chE_good h i hi)).1
   rw [List.getD_eq_getElem?_getD,List.getElem?_eq_getElem hi] at this
   exact this
 · rcases Nat.eq_zero_or_pos l.length with h0 | h0
   · omega
   · have h1:=chE_ge h (l.length - 1) (by omega)
     have h2:=(chBad_no (chE_good h (l.length - 1) (by omega))).1.2
     omega
set_option maxRecDepth 100000 in
set_option maxHeartbeats 8000000 in
theorem plan_any {K:Nat → Prop} {w:World} {a sa ca:Option Addr} {n c sn sc cn cc:Nat} {s:SkyD} (hL:SkyL K w a n c sa sn sc ca cn cc s) (d:DriftD) (t:Int) {KB:Nat → Prop} {ba:Option Addr} {bn bc:Nat} {set:List BoxD} (hB:Boxes KB w (.slice ba bn bc) set) {KO:Nat → Prop} {oa:Option Addr} {on oc:Nat} {offers:List OffD} (hO:Lst TOff KO w (.slice oa on oc) offers) (hW:watchE s d t set offers = 0):Calls Tryz.prog 47 #[.agg #[.slice a n c,.int .i64 s.home,.slice sa sn sc,.slice ca cn cc],.agg #[.int .i64 (d.l.1),.int .i64 (d.l.2),.int .i64 (d.h.1),.int .i64 (d.h.2),.int .i64 (d.g)],.int .i64 t,.slice ba bn bc,.slice oa on oc] w fun e W=>∃ (PB MB:Nat) (p:Ext),e = .returned (.pointer (some ⟨PB,0,none⟩)) ∧ W = ext w p ∧ PlanT W PB MB oa on oc bn (tabV s d t set offers):=by
 refine (newplan_any hL d t hB hO hW).mono ?_
 rintro e W ⟨p,h1,h2,h3,h4⟩
 exact ⟨_,_,p,h1,h2,planT_of hW h3 h4 (Offs.at hO).1 (Boxes.at hB).1⟩
def worstV (s:SkyD) (d:DriftD) (t:Int) (set:List BoxD) (offers:List OffD) (ch:List Int) (f:Int):Int × Int :=
 if watchE s d t set offers = 0 then
  (if withinB f 0 3 = true then
   (if chE offers.length ch = 0 then (((worstT (tabV s d t set offers) (sureO offers) set.length f.toNat ch:Nat):Int),0) else (0,7))
   else (0,2))
 else (0,watchE s d t set offers)
end Go.Proofs.YteafglginnonnaaGreat
/- Package watch: Worst. Conditions: what lies in memory. -/
namespace Go.Proofs.YteafglginnonnaaGreat
set_option linter.unusedVariables false
set_option linter.unusedSimpArgs false
open Go.RowKit Go.Shelf
set_option maxRecDepth 100000 in
set_option maxHeartbeats 20000000 in
theorem wWorst_any (HD:DelC) {K:Nat → Prop} {w:World} {a sa ca:Option Addr} {n c sn sc cn cc:Nat} {s:SkyD} (hL:SkyL K w a n c sa sn sc ca cn cc s) (d:DriftD) (t:Int) {KB:Nat → Prop} {ba:Option Addr} {bn bc:Nat} {set:List BoxD} (hB:Boxes KB w (.slice ba bn bc) set) {KO:Nat → Prop} {oa:Option Addr} {on oc:Nat} {offers:List OffD} (hO:Lst TOff KO w (.slice oa on oc) offers) {KI:Nat → Prop} {ia:Option Addr} {inn ic:Nat} {ch:List Int} (hI:Lst TInt KI w (.slice ia inn ic) ch) (f:Int):Gives Tryz.prog 13 #[.agg #[.slice a n c,.int .i64 s.home,.slice sa sn sc,.slice ca cn cc],.agg #[.int .i64 (d.l.1),.int .i64 (d.l.2),.int .i64 (d.h.1),.int .i64 (d.h.2),.int .i64 (d.g)],.int .i64 t,.slice ba bn bc,.slice oa on oc,.slice ia inn ic,.int .i64 f] w (.tuple #[.int .i64 (worstV s d t set offers ch f).1,.int .i64 (worstV s d t set offers ch f).2]):=by
 have HC:=hide (fun W (hu:Up w W)=>wwatch_any (hL.up hu) d t (hB.keeps (hu.keeps KB)) (hO.up hu))
 have HI:=hide (fun W=>wwithin_any f 0 3 W)
 have hon:=(Offs.at hO).1
 have hbn:=(Boxes.at hB).1
 have HK:=hide (fun (h:watchE s d t set offers = 0) W (hu:Up w W)=>wchk_any (oa:=oa) (oc:=oc) (on:=on) (by have:=(watchE_zero h).2.2.1;omega) (hI.up hu))
 have HP:=hide (fun (h:watchE s d t set offers = 0) W (hu:Up w W)=>plan_any (hL.up hu) d t (hB.keeps (hu.keeps KB)) (hO.up hu) h)
 have HW:=hide (fun (h:withinB f 0 3 = true) (h':chE on ch = 0) (h'':watchE s d t set offers = 0) (W:World) (hu:Up w W) (PB MB:Nat) (hp:PlanT W PB MB oa on oc bn (tabV s d t set offers)) =>
  show Gives Tryz.prog 48 #[.pointer (some ⟨PB,0,none⟩),.slice ia inn ic,.int .i64 f] W (.int .i64 (worstT (tabV s d t set offers) (sureO offers) bn f.toNat ch)) by
   have hf:0 ≤ f ∧ f ≤ 3:=by simpa [withinB] using h
   obtain ⟨f,rfl⟩:=Int.eq_ofNat_of_zero_le hf.1
   have:=(watchE_zero h'').2.2.1
   have h3:=chE_zero h'
   exact wworst_any HD f (by omega) hp (hO.up hu) (hI.up hu) h3.1 (by omega))
 unfold worstV
 rw [← hbn,← hon]
 have HE:=hide (chE_two on ch)
 generalize worstT (tabV s d t set offers) (sureO offers) bn f.toNat ch = R at *
 generalize tabV s d t set offers = TV at *
 generalize watchE s d t set offers = E at *
 generalize chE on ch = CE at *
 generalize hIn:withinB f 0 3 = IN at *
 generalize s.home = home at *
 clear hL hB hO hI hon hbn hIn
 by_cases h0:E = 0
 rotate_left
 · rw [if_neg h0]
   have heb:(E != 0) = true:=by simpa using h0
   clear h0 HP HK HW
   (unfold Gives;go_enter Tryz.func13,Tryz.ntmps13)
   go_wp2_with fail
   go_at_call 10
   refine forgetK (fun wr=>Up w wr ∧ Box wr w.heap.size #[.slice a n c,.int .i64 home,.slice sa sn sc,.slice ca cn cc] 29 ∧ Box wr (w.heap.size + 1) #[.int .i64 (d.l.1),.int .i64 (d.l.2),.int .i64 (d.h.1),.int .i64 (d.h.2),.int .i64 (d.g)] 33) ⟨(by repeat (first | with_reducible exact Up.refl _ | with_reducible apply Up.plus | apply Up.ext | apply Up.alloc | apply Up.drew | (refine Up.setCell ?_ (by simp;try omega) _))),(by repeat (first | exact Box.mk rfl | (refine Box.mk ?_;simp;done) | apply Box.ext | apply Box.drew | apply Box.alloc | apply Box.two1 | (refine Box.other ?_ (by omega) _ _))),(by repeat (first | exact Box.mk rfl | (refine Box.mk ?_;simp;done) | apply Box.ext | apply Box.drew | apply Box.alloc | apply Box.two1 | (refine Box.other ?_ (by omega) _ _)))⟩ ?_
   rintro V0 ⟨hu,b0,b1⟩
   have HB0:=hide (And.intro hu (And.intro b0 b1))
   clear hu b0 b1
   have s0:=(HB0.out.2.1).cell 0 rfl
   have s1:=(HB0.out.2.1).cell 1 rfl
   have s2:=(HB0.out.2.1).cell 2 rfl
   have s3:=(HB0.out.2.1).cell 3 rfl
   have ls:=(HB0.out.2.1).lt
   have dd0:=(HB0.out.2.2).cell 0 rfl
   have dd1:=(HB0.out.2.2).cell 1 rfl
   have dd2:=(HB0.out.2.2).cell 2 rfl
   have dd3:=(HB0.out.2.2).cell 3 rfl
   have dd4:=(HB0.out.2.2).cell 4 rfl
   have ldd:=(HB0.out.2.2).lt
   refine (HC.out _ (by repeat (first | with_reducible exact HB0.out.1 | with_reducible exact Up.refl _ | with_reducible apply Up.ext | with_reducible apply Up.alloc | with_reducible apply Up.drew | (with_reducible refine Up.setCell ?_ (by simp only;omega) _)))).mono ?_
   intro p1
   go_wp2
   refine bodyPost_give (by repeat (first | with_reducible exact HB0.out.1 | with_reducible exact Up.refl _ | with_reducible apply Up.ext | with_reducible apply Up.alloc | with_reducible apply Up.drew | (with_reducible refine Up.setCell ?_ (by simp only;omega) _))) rfl ⟨_,(by simp [results,Tryz.results13,go_sem];rfl),?_⟩
   rfl
 rw [if_pos h0]
 subst h0
 rcases IN with _ | _
 · rw [if_neg (by decide)]
   clear HP HK HW
   (unfold Gives;go_enter Tryz.func13,Tryz.ntmps13)
   go_wp2_with fail
   go_at_call 10
   refine forgetK (fun wr=>Up w wr ∧ Box wr w.heap.size #[.slice a n c,.int .i64 home,.slice sa sn sc,.slice ca cn cc] 29 ∧ Box wr (w.heap.size + 1) #[.int .i64 (d.l.1),.int .i64 (d.l.2),.int .i64 (d.h.1),.int .i64 (d.h.2),.int .i64 (d.g)] 33) ⟨(by repeat (first | with_reducible exact Up.refl _ | with_reducible apply Up.plus | apply Up.ext | apply Up.alloc | apply Up.drew | (refine Up.setCell ?_ (by simp;try omega) _))),(by repeat (first | exact Box.mk rfl | (refine Box.mk ?_;simp;done) | apply Box.ext | apply Box.drew | apply Box.alloc | apply Box.two1 | (refine Box.other ?_ (by omega) _ _))),(by repeat (first | exact Box.mk rfl | (refine Box.mk ?_;simp;done) | apply Box.ext | apply Box.drew | apply Box.alloc | apply Box.two1 | (refine Box.other ?_ (by omega) _ _)))⟩ ?_
   rintro V0 ⟨hu,b0,b1⟩
   have HB0:=hide (And.intro hu (And.intro b0 b1))
   clear hu b0 b1
   have s0:=(HB0.out.2.1).cell 0 rfl
   have s1:=(HB0.out.2.1).cell 1 rfl
   have s2:=(HB0.out.2.1).cell 2 rfl
   have s3:=(HB0.out.2.1).cell 3 rfl
   have ls:=(HB0.out.2.1).lt
   have dd0:=(HB0.out.2.2).cell 0 rfl
   have dd1:=(HB0.out.2.2).cell 1 rfl
   have dd2:=(HB0.out.2.2).cell 2 rfl
   have dd3:=(HB0.out.2.2).cell 3 rfl
   have dd4:=(HB0.out.2.2).cell 4 rfl
   have ldd:=(HB0.out.2.2).lt
   refine (HC.out _ (by repeat (first | with_reducible exact HB0.out.1 | with_reducible exact Up.refl _ | with_reducible apply Up.ext | with_reducible apply Up.alloc | with_reducible apply Up.drew | (with_reducible refine Up.setCell ?_ (by simp only;omega) _)))).mono ?_
   intro p1
   go_wp2_with (go_at_call 45;refine (HI.out _).mono ?_;intro _)
   refine bodyPost_give (by repeat (first | with_reducible exact HB0.out.1 | with_reducible exact Up.refl _ | with_reducible apply Up.ext | with_reducible apply Up.alloc | with_reducible apply Up.drew | (with_reducible refine Up.setCell ?_ (by simp only;omega) _))) rfl ⟨_,(by simp [results,Tryz.results13,go_sem];rfl),?_⟩
   rfl
 rw [if_pos rfl]
 have HK2:=hide (HK.out rfl)
 clear HK
 by_cases h1:CE = 0
 rotate_left
 · rw [if_neg h1]
   obtain rfl:CE = 7:=by rcases HE.out with h | h;exact absurd h h1;exact h
   clear HP HW h1
   (unfold Gives;go_enter Tryz.func13,Tryz.ntmps13)
   go_wp2_with fail
   go_at_call 10
   refine forgetK (fun wr=>Up w wr ∧ Box wr w.heap.size #[.slice a n c,.int .i64 home,.slice sa sn sc,.slice ca cn cc] 29 ∧ Box wr (w.heap.size + 1) #[.int .i64 (d.l.1),.int .i64 (d.l.2),.int .i64 (d.h.1),.int .i64 (d.h.2),.int .i64 (d.g)] 33) ⟨(by repeat (first | with_reducible exact Up.refl _ | with_reducible apply Up.plus | apply Up.ext | apply Up.alloc | apply Up.drew | (refine Up.setCell ?_ (by simp;try omega) _))),(by repeat (first | exact Box.mk rfl | (refine Box.mk ?_;simp;done) | apply Box.ext | apply Box.drew | apply Box.alloc | apply Box.two1 | (refine Box.other ?_ (by omega) _ _))),(by repeat (first | exact Box.mk rfl | (refine Box.mk ?_;simp;done) | apply Box.ext | apply Box.drew | apply Box.alloc | apply Box.two1 | (refine Box.other ?_ (by omega) _ _)))⟩ ?_
   rintro V0 ⟨hu,b0,b1⟩
   have HB0:=hide (And.intro hu (And.intro b0 b1))
   clear hu b0 b1
   have s0:=(HB0.out.2.1).cell 0 rfl
   have s1:=(HB0.out.2.1).cell 1 rfl
   have s2:=(HB0.out.2.1).cell 2 rfl
   have s3:=(HB0.out.2.1).cell 3 rfl
   have ls:=(HB0.out.2.1).lt
   have dd0:=(HB0.out.2.2).cell 0 rfl
   have dd1:=(HB0.out.2.2).cell 1 rfl
   have dd2:=(HB0.out.2.2).cell 2 rfl
   have dd3:=(HB0.out.2.2).cell 3 rfl
   have dd4:=(HB0.out.2.2).cell 4 rfl
   have ldd:=(HB0.out.2.2).lt
   refine (HC.out _ (by repeat (first | with_reducible exact HB0.out.1 | with_reducible exact Up.refl _ | with_reducible apply Up.ext | with_reducible apply Up.alloc | with_reducible apply Up.drew | (with_reducible refine Up.setCell ?_ (by simp only;omega) _)))).mono ?_
   intro p1
   go_wp2_with (first | (go_at_call 45;refine (HI.out _).mono ?_;intro _) | (go_at_call 46;refine (HK2.out _ (by repeat (first | with_reducible exact HB0.out.1 | with_reducible exact Up.refl _ | with_reducible apply Up.ext | with_reducible apply Up.alloc | with_reducible apply Up.drew | (with_reducible refine Up.setCell ?_ (by simp only;omega) _)))).mono ?_;intro _))
   refine bodyPost_give (by repeat (first | with_reducible exact HB0.out.1 | with_reducible exact Up.refl _ | with_reducible apply Up.ext | with_reducible apply Up.alloc | with_reducible apply Up.drew | (with_reducible refine Up.setCell ?_ (by simp only;omega) _))) rfl ⟨_,(by simp [results,Tryz.results13,go_sem];rfl),?_⟩
   rfl
 rw [if_pos h1]
 subst h1
 have HP2:=hide (HP.out rfl)
 have HW2:=hide (HW.out rfl rfl rfl)
 clear HP HW HE
 (unfold Gives;go_enter Tryz.func13,Tryz.ntmps13)
 go_wp2_with fail
 go_at_call 10
 refine forgetK (fun wr=>Up w wr ∧ Box wr w.heap.size #[.slice a n c,.int .i64 home,.slice sa sn sc,.slice ca cn cc] 29 ∧ Box wr (w.heap.size + 1) #[.int .i64 (d.l.1),.int .i64 (d.l.2),.int .i64 (d.h.1),.int .i64 (d.h.2),.int .i64 (d.g)] 33) ⟨(by repeat (first | with_reducible exact Up.refl _ | with_reducible apply Up.plus | apply Up.ext | apply Up.alloc | apply Up.drew | (refine Up.setCell ?_ (by simp;try omega) _))),(by repeat (first | exact Box.mk rfl | (refine Box.mk ?_;simp;done) | apply Box.ext | apply Box.drew | apply Box.alloc | apply Box.two1 | (refine Box.other ?_ (by omega) _ _))),(by repeat (first | exact Box.mk rfl | (refine Box.mk ?_;simp;done) | apply Box.ext | apply Box.drew | apply Box.alloc | apply Box.two1 | (refine Box.other ?_ (by omega) _ _)))⟩ ?_
 rintro V0 ⟨hu,b0,b1⟩
 have HB0:=hide (And.intro hu (And.intro b0 b1))
 clear hu b0 b1
 have s0:=(HB0.out.2.1).cell 0 rfl
 have s1:=(HB0.out.2.1).cell 1 rfl
 have s2:=(HB0.out.2.1).cell 2 rfl
 have s3:=(HB0.out.2.1).cell 3 rfl
 have ls:=(HB0.out.2.1).lt
 have dd0:=(HB0.out.2.2).cell 0 rfl
 have dd1:=(HB0.out.2.2).cell 1 rfl
 have dd2:=(HB0.out.2.2).cell 2 rfl
 have dd3:=(HB0.out.2.2).cell 3 rfl
 have dd4:=(HB0.out.2.2).cell 4 rfl
 have ldd:=(HB0.out.2.2).lt
 refine (HC.out _ (by repeat (first | with_reducible exact HB0.out.1 | with_reducible exact Up.refl _ | with_reducible apply Up.ext | with_reducible apply Up.alloc | with_reducible apply Up.drew | (with_reducible refine Up.setCell ?_ (by simp only;omega) _)))).mono ?_
 intro p1
 go_wp2_with (first | (go_at_call 45;refine (HI.out _).mono ?_;intro _) | (go_at_call 46;refine (HK2.out _ (by repeat (first | with_reducible exact HB0.out.1 | with_reducible exact Up.refl _ | with_reducible apply Up.ext | with_reducible apply Up.alloc | with_reducible apply Up.drew | (with_reducible refine Up.setCell ?_ (by simp only;omega) _)))).mono ?_;intro _))
 go_at_call 47
 refine (HP2.out _ (by repeat (first | with_reducible exact HB0.out.1 | with_reducible exact Up.refl _ | with_reducible apply Up.ext | with_reducible apply Up.alloc | with_reducible apply Up.drew | (with_reducible refine Up.setCell ?_ (by simp only;omega) _)))).mono ?_
 rintro _ _ ⟨PB,MB,q,rfl,rfl,hp⟩
 rw [ext_ext] at hp
 have HW3:=hide (HW2.out _ (by repeat (first | with_reducible exact HB0.out.1 | with_reducible exact Up.refl _ | with_reducible apply Up.ext | with_reducible apply Up.alloc | with_reducible apply Up.drew | (with_reducible refine Up.setCell ?_ (by simp only;omega) _))) PB MB hp)
 clear hp
 go_wp2_with (go_at_call 48;refine (HW3.out).mono ?_;intro _)
 refine bodyPost_give (by repeat (first | with_reducible exact HB0.out.1 | with_reducible exact Up.refl _ | with_reducible apply Up.ext | with_reducible apply Up.alloc | with_reducible apply Up.drew | (with_reducible refine Up.setCell ?_ (by simp only;omega) _))) rfl ⟨_,(by simp [results,Tryz.results13,go_sem];rfl),?_⟩
 rfl
end Go.Proofs.YteafglginnonnaaGreat
/- The offers of a set of bits. Conditions: few offers. -/
namespace Go.Proofs.YteafglginnonnaaGreat
set_option linter.unusedVariables false
set_option linter.unusedSimpArgs false
open Go.RowKit Go.Shelf
def bitB (x:Int) (i:Nat):Bool:=decide (x / 2 ^ i % 2 = 1)
def chL (x:Int) (k:Nat):List Int:=((List.range k).filter (bitB x)).map fun (i:Nat)=>(i:Int)
theorem chL_yes {x:Int} {k:Nat} (h:bitB x k = true):chL x (k + 1) = chL x k ++ [(k:Int)]:=by
 unfold chL
 rw [List.range_succ,List.filter_append,List.map_append]
 simp [h]
theorem chL_no {x:Int} {k:Nat} (h:bitB x k = false):chL x (k + 1) = chL x k:=by
 unfold chL
 rw [List.range_succ,List.filter_append,List.map_append]
 simp [h]
theorem chL_le (x:Int) (k:Nat):(chL x k).length ≤ k:=by
 unfold chL
 rw [List.length_map]
 have:=List.length_filter_le (bitB x) (List.range k)
 simpa using this
set_option maxRecDepth 100000 in
set_option maxHeartbeats 8000000 in
theorem chosen_any (x:Int) {n:Nat} (hn:n ≤ 60) (w:World):Calls Tryz.prog 14 #[.int .i64 x,.int .i64 n] w fun e W=>∃ (a:Option Addr) (m c:Nat) (p:Ext),e = .returned (.slice a m c) ∧ Lst TInt (fun q=>w.heap.size ≤ q) W (.slice a m c) (chL x n) ∧ W = ext w p:=by
 go_enter Tryz.func14,Tryz.ntmps14
 go_wp2_with fail
 go_loopw [5,6] (fun s5 s6 wr=>∃ k:Nat,k ≤ n ∧ s6 = .int .i64 k ∧ Hid (Up w wr ∧ Own TInt 3 w.heap.size wr s5 (chL x k))) (fun _ s6 _=>n - (intOf s6).toNat)
 case atStart=>exact ⟨0,by omega,rfl,hide ⟨(by repeat (first | with_reducible exact Up.refl _ | with_reducible apply Up.plus | apply Up.ext | apply Up.alloc | apply Up.drew | (refine Up.setCell ?_ (by simp;try omega) _))),Own.nil _ _ _ _⟩⟩
 case round =>
  obtain ⟨k,hk,rfl,HI⟩:=hrel
  by_cases hlt:k < n
  · have hkb:decide ((k:Int) < n) = true:=by simp;omega
    have hkn:decide (k < n) = true:=by simp;omega
    have e1:=and_one_i64 (x / 2 ^ k)
    have hyes:=chL_yes (x:=x) (k:=k)
    have hno:=chL_no (x:=x) (k:=k)
    unfold bitB at hyes hno
    have hle:=chL_le x k
    obtain ⟨va,vc,hv⟩:=HI.out.2.form
    generalize x / 2 ^ k % 2 = m at *
    have HYN:=hide (And.intro hyes hno)
    clear hyes hno
    by_cases hm:m = 1
    · have hm1:(m == 1) = true:=by simpa using hm
      have HY:=hide (HYN.out.1 (decide_eq_true hm))
      clear hm HYN
      go_wp2_with (at_builtin;with_reducible refine stopA rfl ?_)
      refine hide ?_
      refine wpList_pushG elem_int rfl (.tmp 18) (.tmp 20) rfl (w0:=w) (base:=w.heap.size) (HI.out.1.trans (by repeat (first | with_reducible exact Up.refl _ | with_reducible apply Up.plus | apply Up.ext | apply Up.alloc | apply Up.drew | (refine Up.setCell ?_ (by simp;try omega) _)))) (Nat.le_refl _) (Nat.le_trans HI.out.1.below.size (by simp)) rfl (HI.out.2.up (by repeat (first | with_reducible exact Up.refl _ | with_reducible apply Up.plus | apply Up.ext | apply Up.alloc | apply Up.drew | (refine Up.setCell ?_ (by simp;try omega) _)))) (by omega) (by decide) (k:Int) rfl (Box.mk (by simp)) ?_
      intro g cap W' hu ho _
      have HJ:=hide (show Up w W' ∧ Own TInt 3 w.heap.size W' (.slice (some ⟨g,0,none⟩) ((chL x k).length + 1) cap) (chL x (k + 1)) from ⟨hu,by rw [HY.out];exact ho⟩)
      clear hu ho HI HY
      go_wp2_with fail
      go_roundw
      case rel=>exact ⟨k + 1,by omega,by go_num,HJ⟩
      case measure=>simp [intOf];omega
    · have hm1:(m == 1) = false:=by simpa using hm
      have HY:=hide (HYN.out.2 (decide_eq_false hm))
      clear hm HYN
      go_wp2_with fail
      go_roundw
      case rel=>exact ⟨k + 1,by omega,by go_num,hide (by rw [HY.out];exact HI.out)⟩
      case measure=>simp [intOf];omega
  · have hkb:decide ((k:Int) < n) = false:=by simp;omega
    have hkn:decide (k < n) = false:=by simp;omega
    obtain rfl:k = n:=by omega
    obtain ⟨va,vc,hv⟩:=HI.out.2.form
    have hle:=chL_le x k
    have HL:=hide ((hv ▸ HI.out.2.lies (by omega)):Lst TInt (fun b=>w.heap.size ≤ b) _ (.slice va (chL x k).length vc) (chL x k))
    have HU:=hide HI.out.1
    clear HI
    subst hv
    go_wp2_with fail
    obtain ⟨p,hp⟩:=HU.out
    exact bodyPost_ret (v:=.slice va (chL x k).length vc) (by simp [results,Tryz.results14,go_sem]) rfl ⟨_,_,_,p,rfl,HL.out,hp⟩
end Go.Proofs.YteafglginnonnaaGreat
/- What a choice proves at the worst, in plain Lean: more offers, more failures, surer offers. No conditions. -/
namespace Go.Proofs.YteafglginnonnaaGreat
set_option linter.unusedVariables false
set_option linter.unusedSimpArgs false
open Go.RowKit Go.Shelf
theorem bitB_bv (x:Int) (i:Nat) (hi:i < 64):bitB x i = (BitVec.ofInt 64 x).getLsbD i:=by
 unfold bitB BitVec.getLsbD
 rw [BitVec.toNat_ofInt,Nat.testBit_eq_decide_div_mod_eq]
 congr 1
 have hp:(0:Int) < 2 ^ i:=Int.pow_pos (by decide)
 obtain ⟨j,hj⟩:∃ j,64 = i + (j + 1):=⟨63 - i,by omega⟩
 have h64:(((2 ^ 64:Nat):Int)) = 2 ^ i * (2 * 2 ^ j):=by
  rw [hj]
  simp [Nat.pow_add,Nat.pow_succ]
  rw [Int.mul_comm (2 ^ j) 2]
 have h1:x / 2 ^ i = 2 * (2 ^ j * (x / ((2 ^ 64:Nat):Int))) + (x % ((2 ^ 64:Nat):Int)) / 2 ^ i:=by
  have e:x = x % ((2 ^ 64:Nat):Int) + 2 ^ i * (2 * 2 ^ j * (x / ((2 ^ 64:Nat):Int))):=by
   have:=Int.emod_add_mul_ediv x ((2 ^ 64:Nat):Int)
   rw [← Int.mul_assoc,← h64]
   exact this.symm
  conv=>lhs;rw [e]
  rw [Int.add_mul_ediv_left _ _ (Int.ne_of_gt hp),Int.mul_assoc]
  omega
 have hr:0 ≤ x % ((2 ^ 64:Nat):Int):=Int.emod_nonneg _ (by decide)
 have h2:(((x % ((2 ^ 64:Nat):Int)).toNat / 2 ^ i:Nat):Int) = (x % ((2 ^ 64:Nat):Int)) / 2 ^ i:=by
  rw [Int.natCast_ediv,Int.toNat_of_nonneg hr]
  simp
 rw [h1,← h2]
 generalize (x % ((2 ^ 64:Nat):Int)).toNat / 2 ^ i = n
 generalize 2 ^ j * (x / ((2 ^ 64:Nat):Int)) = q
 apply propext
 omega
theorem ofInt_bits (v:BitVec 64):BitVec.ofInt 64 (IntKind.i64.wrap v.toNat) = v:=by
 apply BitVec.eq_of_toNat_eq
 rw [BitVec.toNat_ofInt,IntKind.wrap_i64]
 have:=v.isLt
 omega
theorem bit_or {x y:Int} {i:Nat} (hi:i < 64) (h:bitB x i = true):bitB (bits .or .i64 x y) i = true:=by
 rw [bitB_bv _ _ hi] at h ⊢
 unfold bits
 rw [show IntKind.i64.bits = 64 from rfl,ofInt_bits]
 simp [BitVec.getLsbD_or,h]
theorem mem_chL {x:Int} {k:Nat} {o:Int}:o ∈ chL x k ↔ ∃ i:Nat,i < k ∧ bitB x i = true ∧ o = i:=by
 unfold chL
 simp only [List.mem_map,List.mem_filter,List.mem_range]
 constructor
 · rintro ⟨i,⟨h1,h2⟩,rfl⟩;exact ⟨i,h1,h2,rfl⟩
 · rintro ⟨i,h1,h2,rfl⟩;exact ⟨i,⟨h1,h2⟩,rfl⟩
theorem chL_sorted (x:Int) (k:Nat):(chL x k).Pairwise (· < ·):=by
 unfold chL
 refine List.Pairwise.map _ (fun a b h=>by simpa using h) (List.Pairwise.filter _ List.pairwise_lt_range)
theorem chL_nodup (x:Int) (k:Nat):(chL x k).Nodup:=by
 exact (chL_sorted x k).imp fun h e=>by omega
theorem chE_chL (x:Int) (k:Nat):chE k (chL x k) = 0:=by
 refine chE_ok fun i hi=>?_
 have h1:(chL x k).getD i 0 = (chL x k)[i]:=by rw [List.getD_eq_getElem?_getD,List.getElem?_eq_getElem hi];rfl
 obtain ⟨q,hq,_,e⟩:=mem_chL.1 (List.getElem_mem hi)
 unfold chBad
 rw [h1,e]
 simp only [Bool.or_eq_false_iff,Bool.and_eq_false_iff,decide_eq_false_iff_not]
 refine ⟨⟨by omega,by omega⟩,?_⟩
 by_cases h0:0 < i
 · refine .inr ?_
   have h2:(chL x k).getD (i - 1) 0 = (chL x k)[i - 1]:=by rw [List.getD_eq_getElem?_getD,List.getElem?_eq_getElem (by omega)];rfl
   have h3:=List.pairwise_iff_getElem.1 (chL_sorted x k) (i - 1) i (by omega) hi (by omega)
   rw [h2]
   rw [e] at h3
   omega
 · exact .inl h0
def Rch (su:Int → Bool):Nat → List Int → List Int → Prop
 | 0,ch,c=>c = ch
 | f + 1,ch,c=>c = ch ∨ ∃ i,i < ch.length ∧ su (ch.getD i 0) = false ∧ Rch su f (ch.eraseIdx i) c
theorem Rch.more {su:Int → Bool}:∀ {f:Nat} {ch c:List Int},Rch su f ch c → Rch su (f + 1) ch c
 | 0,_,_,h=>.inl h
 | _ + 1,_,_,.inl h=>.inl h
 | _ + 1,_,_,.inr ⟨i,h1,h2,h3⟩=>.inr ⟨i,h1,h2,h3.more⟩
theorem Rch.surer {su su':Int → Bool} (hs:∀ o,su o = true → su' o = true):∀ {f:Nat} {ch c:List Int},Rch su' f ch c → Rch su f ch c
 | 0,_,_,h=>h
 | _ + 1,_,_,.inl h=>.inl h
 | f + 1,ch,c,.inr ⟨i,h1,h2,h3⟩=>by
  refine .inr ⟨i,h1,?_,h3.surer hs⟩
  cases h:su (ch.getD i 0) with
  | false=>rfl
  | true=>rw [hs _ h] at h2;cases h2
theorem wstepT_le_iff {T:Int → Int → VwD} {su:Int → Bool} {cn f:Nat} {ch:List Int} {m:Nat}:∀ k,wstepT T su cn f ch k ≤ m ↔ confT T ch cn cn ≤ m ∧ ∀ i,i < k → su (ch.getD i 0) = false → worstT T su cn f (ch.eraseIdx i) ≤ m
 | 0=>by
  rw [wstepT_zero]
  exact ⟨fun h=>⟨h,fun i hi=>absurd hi (by omega)⟩,fun h=>h.1⟩
 | k + 1=>by
  rw [wstepT_succ]
  have ih:=wstepT_le_iff (T:=T) (su:=su) (cn:=cn) (f:=f) (ch:=ch) (m:=m) k
  rcases hs:su (ch.getD k 0) with _ | _
  · rw [if_neg (by decide),Nat.max_le,ih]
    constructor
    · rintro ⟨⟨h1,h2⟩,h3⟩
      refine ⟨h1,fun i hi h=>?_⟩
      rcases Nat.lt_or_ge i k with h4 | h4
      · exact h2 i h4 h
      · rw [show i = k by omega];exact h3
    · rintro ⟨h1,h2⟩
      exact ⟨⟨h1,fun i hi h=>h2 i (by omega) h⟩,h2 k (by omega) hs⟩
  · rw [if_pos rfl,ih]
    constructor
    · rintro ⟨h1,h2⟩
      refine ⟨h1,fun i hi h=>?_⟩
      rcases Nat.lt_or_ge i k with h4 | h4
      · exact h2 i h4 h
      · rw [show i = k by omega,hs] at h;cases h
    · rintro ⟨h1,h2⟩
      exact ⟨h1,fun i hi h=>h2 i (by omega) h⟩
theorem worstT_le_iff {T:Int → Int → VwD} {su:Int → Bool} {cn m:Nat}:∀ {f:Nat} {ch:List Int},worstT T su cn f ch ≤ m ↔ ∀ c,Rch su f ch c → confT T c cn cn ≤ m
 | 0,ch=>by
  rw [worstT_zero]
  exact ⟨fun h c hc=>by rw [show c = ch from hc];exact h,fun h=>h ch rfl⟩
 | f + 1,ch=>by
  rw [wstepT_all,wstepT_le_iff]
  constructor
  · rintro ⟨h1,h2⟩ c (rfl | ⟨i,h3,h4,h5⟩)
    · exact h1
    · exact worstT_le_iff.1 (h2 i h3 h4) c h5
  · intro h
    exact ⟨h ch (.inl rfl),fun i hi hs=>worstT_le_iff.2 fun c hc=>h c (.inr ⟨i,hi,hs,hc⟩)⟩
theorem mixT_mono {T:Int → Int → VwD} {c c':List Int} (h:∀ o ∈ c,o ∈ c') (i k:Int) (hm:mixT T c' i k = true):mixT T c i k = true:=by
 unfold mixT at hm ⊢
 rw [Bool.or_eq_true] at hm ⊢
 rcases hm with hm | hm
 · exact .inl hm
 · refine .inr ?_
   rw [Bool.not_eq_true',List.any_eq_false] at hm ⊢
   exact fun o ho=>hm o (h o ho)
theorem cntT_mono {T:Int → Int → VwD} {c c':List Int} (h:∀ o ∈ c,o ∈ c') (i:Int) (k:Nat):cntT T c' i k ≤ cntT T c i k:=by
 unfold cntT
 exact List.countP_mono_left fun j _ hj=>mixT_mono h i j hj
theorem confT_mono {T:Int → Int → VwD} {c c':List Int} (h:∀ o ∈ c,o ∈ c') (cn:Nat):∀ k,confT T c' cn k ≤ confT T c cn k
 | 0=>Nat.le_refl _
 | k + 1=>by
  rw [confT_succ,confT_succ]
  have:=confT_mono (T:=T) h cn k
  have:=cntT_mono (T:=T) h k cn
  omega
theorem mem_erase {l:List Int} {i:Nat} {o:Int} (ho:o ∈ l) (hne:o ≠ l.getD i 0):o ∈ l.eraseIdx i:=by
 obtain ⟨j,hj,rfl⟩:=List.getElem_of_mem ho
 have hji:j ≠ i:=by
  rintro rfl
  exact hne (by rw [List.getD_eq_getElem?_getD,List.getElem?_eq_getElem hj];rfl)
 exact List.mem_eraseIdx_iff_getElem.2 ⟨j,hj,hji,rfl⟩
theorem not_erase {l:List Int} (hn:l.Nodup) {i:Nat} (hi:i < l.length) {o:Int} (ho:o ∈ l.eraseIdx i):o ∈ l ∧ o ≠ l.getD i 0:=by
 refine ⟨List.mem_of_mem_eraseIdx ho,?_⟩
 obtain ⟨j,hj,hji,rfl⟩:=List.mem_eraseIdx_iff_getElem.1 ho
 rw [List.getD_eq_getElem?_getD,List.getElem?_eq_getElem hi]
 intro e
 have e':l[j] = l[i]:=e
 have hp:=List.pairwise_iff_getElem.1 hn
 rcases Nat.lt_or_gt_of_ne hji with h | h
 · exact hp j i hj hi h e'
 · exact hp i j hi hj h e'.symm
theorem Rch.less {su:Int → Bool}:∀ {f:Nat} {ch ch' c':List Int},ch.Nodup → (∀ o ∈ ch,o ∈ ch') → Rch su f ch' c' → ∃ c,Rch su f ch c ∧ ∀ o ∈ c,o ∈ c'
 | 0,ch,ch',c',_,h,hr=>⟨ch,rfl,by rw [show c' = ch' from hr];exact h⟩
 | f + 1,ch,ch',c',hn,h,.inl hr=>⟨ch,.inl rfl,by rw [hr];exact h⟩
 | f + 1,ch,ch',c',hn,h,.inr ⟨i,hi,hs,hr⟩=>by
  by_cases ho:ch'.getD i 0 ∈ ch
  · obtain ⟨j,hj,e⟩:=List.getElem_of_mem ho
    have ej:ch.getD j 0 = ch'.getD i 0:=by rw [List.getD_eq_getElem?_getD,List.getElem?_eq_getElem hj];exact e
    obtain ⟨c,h1,h2⟩:=Rch.less (f:=f) (ch:=ch.eraseIdx j) (hn.eraseIdx j) (fun o hoo=>by
     obtain ⟨h3,h4⟩:=not_erase hn hj hoo
     exact mem_erase (h o h3) (by rw [← ej];exact h4)) hr
    exact ⟨c,.inr ⟨j,hj,by rw [ej];exact hs,h1⟩,h2⟩
  · obtain ⟨c,h1,h2⟩:=Rch.less (f:=f) hn (fun o hoo=>mem_erase (h o hoo) (fun e=>ho (e ▸ hoo))) hr
    exact ⟨c,h1.more,h2⟩
theorem worst_more {T:Int → Int → VwD} {su:Int → Bool} {cn f:Nat} {ch ch':List Int} (hn:ch.Nodup) (h:∀ o ∈ ch,o ∈ ch'):worstT T su cn f ch' ≤ worstT T su cn f ch :=
 worstT_le_iff.2 fun c' hc=>by
  obtain ⟨c,h1,h2⟩:=Rch.less hn h hc
  exact Nat.le_trans (confT_mono h2 cn cn) (worstT_le_iff.1 (Nat.le_refl _) c h1)
theorem worst_fail (T:Int → Int → VwD) (su:Int → Bool) (cn f:Nat) (ch:List Int):worstT T su cn f ch ≤ worstT T su cn (f + 1) ch :=
 worstT_le_iff.2 fun c hc=>worstT_le_iff.1 (Nat.le_refl _) c hc.more
theorem worst_surer {T:Int → Int → VwD} {su su':Int → Bool} (hs:∀ o,su o = true → su' o = true) (cn f:Nat) (ch:List Int):worstT T su' cn f ch ≤ worstT T su cn f ch :=
 worstT_le_iff.2 fun c hc=>worstT_le_iff.1 (Nat.le_refl _) c (hc.surer hs)
/-! ### an offer made sure -/
def sureAt (l:List OffD) (i:Nat):List OffD:=l.modify i fun o=>{ o with sure:=true }
theorem firstE_modify {α:Type} {F:α → Int} {g:α → α} (h:∀ x,F (g x) = F x):∀ (l:List α) (i:Nat),firstE F (l.modify i g) = firstE F l
 | [],i=>by cases i <;> rfl
 | x :: l,0=>by
  simp only [List.modify_zero_cons]
  unfold firstE
  rw [h]
 | x :: l,i + 1=>by
  simp only [List.modify_succ_cons]
  unfold firstE
  rw [firstE_modify h l i]
theorem watchE_sure (s:SkyD) (d:DriftD) (t:Int) (set:List BoxD) (l:List OffD) (i:Nat):watchE s d t set (sureAt l i) = watchE s d t set l:=by
 unfold watchE sureAt
 rw [List.length_modify,firstE_modify (F:=offW s d t set) (g:=fun o=>{ o with sure:=true }) (fun o=>rfl)]
theorem tabV_sure (s:SkyD) (d:DriftD) (t:Int) (set:List BoxD) (l:List OffD) (i:Nat):tabV s d t set (sureAt l i) = tabV s d t set l:=by
 funext o k
 unfold tabV sureAt
 rw [List.getElem?_modify]
 cases h:l[o.toNat]? with
 | none=>rfl
 | some x =>
  by_cases hi:i = o.toNat
  · simp only [hi,if_true,Option.map_some]
    rfl
  · simp only [hi,if_false,Option.map_some]
    rfl
theorem sureO_sure (l:List OffD) (i:Nat) (o:Int) (h:sureO l o = true):sureO (sureAt l i) o = true:=by
 unfold sureO sureAt at *
 rw [List.getElem?_modify]
 cases hx:l[o.toNat]? with
 | none=>rw [hx] at h;simp at h
 | some x =>
  rw [hx] at h
  by_cases hi:i = o.toNat
  · simp [hi]
  · simp [hi]
    simpa using h
end Go.Proofs.YteafglginnonnaaGreat
