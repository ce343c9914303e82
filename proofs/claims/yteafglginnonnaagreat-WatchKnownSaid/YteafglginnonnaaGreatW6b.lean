/- Several texts in one. -/
import Derived.Test.YteafglginnonnaaGreatSkyR
import Derived.Test.YteafglginnonnaaGreatVO
import Derived.Test.YteafglginnonnaaGreatModk
import Derived.Test.YteafglginnonnaaGreatTail
import Derived.Test.YteafglginnonnaaGreatWatchF
import Derived.Test.YteafglginnonnaaGreatWatchK
/- Package watch: lists of numbers; what a plan tells apart. Conditions: what lies in memory. -/
namespace Go.Proofs.YteafglginnonnaaGreat
set_option linter.unusedVariables false
set_option linter.unusedSimpArgs false
open Go.RowKit Go.Shelf
def TInt:Rw Int:=⟨1,fun x=>[.int .i64 x],by decide,fun _=>rfl,fun _ u hu=>by simp only [List.mem_cons,List.not_mem_nil,or_false] at hu;rcases hu with rfl;rfl⟩
theorem Tryz.infoint:(Tryz.prog.info? 3).map (fun i=>(i.zero,i.size,i.bytes)) = some (some (.int .i64 0),1,8):=by kernel_rfl
theorem elem_int:ElemOk Tryz.prog TInt 22 3 8:=by
 obtain ⟨i,h1,h2,h3,h4⟩:=info_parts Tryz.infoint
 exact ⟨Tryz.underlying22,i,_,h1,h2,h3,h4,rfl⟩
theorem Ints.at {K:Nat → Prop} {w:World} {a:Option Addr} {n c:Nat} {l:List Int} (h:Lst TInt K w (.slice a n c) l):n = l.length ∧ n ≤ 9223372036854775807 ∧
 ∀ i,i < n → ∃ b o p,a = some ⟨b,o,none⟩ ∧ K b ∧ b < w.heap.size ∧ l[i]? = some p ∧ w.cell? ⟨b,o + i,none⟩ = some (.int .i64 p):=by
 obtain ⟨a',c',h1,h2,h3⟩:=h
 simp at h1
 obtain ⟨rfl,rfl,rfl⟩:=h1
 refine ⟨rfl,h2,fun i hi=>?_⟩
 obtain ⟨b,o,rfl,hK,hb,hc⟩:=h3 (by intro e;subst e;simp at hi)
 obtain ⟨vs,rfl,_,hx⟩:=hc i l[i] (List.getElem?_eq_getElem hi)
 exact ⟨b,o,l[i],rfl,hK,hb,List.getElem?_eq_getElem hi,by have:=hx 0 _ rfl;rw [show TInt.k = 1 from rfl,Nat.mul_one,Nat.add_zero] at this;exact this⟩
set_option maxRecDepth 100000 in
set_option maxHeartbeats 8000000 in
theorem ixint_any (g:Nat) (cap:Array Value) (eg:∀ args w,(callFunc g args).run Tryz.prog w = .ok (.enter g args) w) (F:Int → Bool) {K:Nat → Prop} {a:Option Addr} {n c:Nat} {l:List Int} {w:World} (hl:Lst TInt K w (.slice a n c) l)
 (hF:∀ p W,p ∈ l → Up w W → Gives Tryz.prog g (#[.int .i64 p] ++ cap) W (.bool (F p))) :
 Gives Tryz.prog 172 #[.slice a n c,.func (.func g) #[] cap] w (.int .i64 (firstI F l)):=by
 have hn:=(Ints.at hl).1
 have hm:=(Ints.at hl).2.1
 have HF:=hide (And.intro hF hl)
 have HN:=hide hn
 clear hF hl hn
 (unfold Gives;go_enter Tryz.func172,Tryz.ntmps172)
 go_wp2
 go_loopw [8] (fun s8 wr=>∃ k:Nat,k ≤ n ∧ s8 = .int .i64 k ∧ Up w wr ∧ Hid (noneYet F l k)) (fun s8 _=>n - (intOf s8).toNat)
 case atStart=>exact ⟨0,by omega,rfl,Up.refl _,hide (fun i p hi _=>by omega)⟩
 case round =>
  obtain ⟨k,hk,rfl,hu,hb⟩:=hrel
  by_cases hlt:k < n
  · obtain ⟨b,o,p,rfl,hKb,hbw,hp,hc0⟩:=(Ints.at (HF.out.2.keeps (hu.keeps K))).2.2 k hlt
    have hkb:decide ((k:Int) < n) = true:=by simp;omega
    have HC:=hide (HF.out.1 p _ (List.mem_of_getElem? hp) hu)
    have HP:=hide hp
    have HU:=hide hu
    clear hp hu hKb
    rcases hF:F p with _ | _
    · have HS:=hide hF
      rw [hF] at HC
      clear hF
      go_wp2
      refine HC.out.mono ?_
      intro px
      go_wp2
      refine ⟨⟨k + 1,by omega,by go_num,HU.out.ext _,hide (hb.out.succ HP.out HS.out)⟩,by simp [intOf];omega⟩
    · have HS:=hide hF
      rw [hF] at HC
      clear hF
      go_wp2
      refine HC.out.mono ?_
      intro px
      go_wp2
      go_ret
      exact ⟨by rw [firstI_found hb.out HP.out HS.out];rfl,HU.out.ext _⟩
  · have hkb:decide ((k:Int) < n) = false:=by simp;omega
    obtain rfl:k = n:=by omega
    go_wp2
    go_ret
    exact ⟨by rw [firstI_none (by rw [← HN.out];exact hb.out)];rfl,hu⟩
theorem anyint_any (g:Nat) (cap:Array Value) (eg:∀ args w,(callFunc g args).run Tryz.prog w = .ok (.enter g args) w) (F:Int → Bool) {K:Nat → Prop} {a:Option Addr} {n c:Nat} {l:List Int} {w:World} (hl:Lst TInt K w (.slice a n c) l)
 (hF:∀ p W,p ∈ l → Up w W → Gives Tryz.prog g (#[.int .i64 p] ++ cap) W (.bool (F p))) :
 Gives Tryz.prog 134 #[.slice a n c,.func (.func g) #[] cap] w (.bool (l.any F)):=by
 have HX:=hide (ixint_any g cap eg F hl hF)
 clear hl hF
 (unfold Gives;go_enter Tryz.func134,Tryz.ntmps134)
 go_wp2_with (go_at_call 172;refine (HX.out).mono ?_;intro _)
 go_ret
 exact ⟨ret_bool (firstI_ge F l),(by repeat (first | with_reducible exact Up.refl _ | with_reducible apply Up.plus | apply Up.ext | apply Up.alloc | apply Up.drew | (refine Up.setCell ?_ (by simp;try omega) _)))⟩
/-! ### a plan in memory: the views of on offers and cn cells -/
abbrev VwD:=Bool × Bool × Int × Int
structure PlanT (W:World) (PB MB:Nat) (oa:Option Addr) (on oc cn:Nat) (T:Int → Int → VwD):Prop where
 p:Box W PB #[.slice oa on oc,.int .i64 cn,.map (some MB)] 143
 m:∃ l,MapV W MB l ∧ KeyOk l ∧ ∀ i k:Int,0 ≤ i → i < on → 0 ≤ k → k < cn → (i,k,T i k) ∈ l ∧ ∀ x ∈ l,x.1 = i → x.2.1 = k → x.2.2 = T i k
 n:on ≤ 1000 ∧ cn ≤ 1000
theorem PlanT.up {W V:World} {PB MB:Nat} {oa:Option Addr} {on oc cn:Nat} {T:Int → Int → VwD} (h:PlanT W PB MB oa on oc cn T) (hu:Up W V):PlanT V PB MB oa on oc cn T :=
 ⟨h.p.up hu,let ⟨l,h1,h2⟩:=h.m;⟨l,h1.up hu,h2⟩,h.n⟩
theorem PlanT.look {W:World} {PB MB:Nat} {oa:Option Addr} {on oc cn:Nat} {T:Int → Int → VwD} (h:PlanT W PB MB oa on oc cn T) {i k:Int} (i0:0 ≤ i) (i1:i < on) (k0:0 ≤ k) (k1:k < cn) :
 (Instr.lookup 141 (.map (some MB)) (.agg #[.int .i64 (i),.int .i64 (k)]) false).run Tryz.prog W = .ok (.agg (vwA (T i k))) W:=by
 obtain ⟨l,h1,h2,h3⟩:=h.m
 obtain ⟨h4,h5⟩:=h3 i k i0 i1 k0 k1
 have:=h.n
 exact mapv_lookup h1 h2 (by unfold I64;omega) (by unfold I64;omega) h4 h5
def apartT (T:Int → Int → VwD) (i k o:Int):Bool:=!mixedB (T o i) (T o k)
set_option maxRecDepth 100000 in
set_option maxHeartbeats 8000000 in
theorem wconf1_any {w W:World} {PB MB bp bi bk:Nat} {oa:Option Addr} {on oc cn:Nat} {T:Int → Int → VwD} (hP:PlanT W PB MB oa on oc cn T) {i k o:Int} (hp:Box W bp #[.pointer (some ⟨PB,0,none⟩)] 105) (hbi:Box W bi #[.int .i64 i] 3) (hbk:Box W bk #[.int .i64 k] 3)
 (i0:0 ≤ i) (i1:i < cn) (k0:0 ≤ k) (k1:k < cn) (o0:0 ≤ o) (o1:o < on) :
 Gives Tryz.prog 133 (#[.int .i64 o] ++ #[.pointer (some ⟨bp,0,none⟩),.pointer (some ⟨bi,0,none⟩),.pointer (some ⟨bk,0,none⟩)]) W (.bool (apartT T i k o)):=by
 have HL1:=fun q:Ext=>(hP.up ((Up.refl W).ext q)).look o0 o1 i0 i1
 have HL2:=fun q:Ext=>(hP.up ((Up.refl W).ext q)).look o0 o1 k0 k1
 have HM:=hide (fun U=>wmixed_any (T o i) (T o k) U)
 unfold apartT
 generalize mixedB (T o i) (T o k) = M at *
 generalize T o i = A at *
 generalize T o k = B at *
 obtain ⟨A1,A2,A3,A4⟩:=A
 obtain ⟨B1,B2,B3,B4⟩:=B
 unfold viewA at HM
 unfold vwA at HL1 HL2
 dsimp only at *
 have p0:=hp.cell 0 rfl
 have lp:=hp.lt
 have i00:=hbi.cell 0 rfl
 have li:=hbi.lt
 have k00:=hbk.cell 0 rfl
 have lk:=hbk.lt
 have q0:=hP.p.cell 0 rfl
 have q1:=hP.p.cell 1 rfl
 have q2:=hP.p.cell 2 rfl
 have lq:=hP.p.lt
 clear hP hp hbi hbk i0 i1 k0 k1 o0 o1
 (unfold Gives;go_enter Tryz.func133,Tryz.ntmps133)
 go_wp2_with fail
 ((first | with_reducible refine wp_region_ext2 (by kernel_rfl) (by kernel_rfl) ?_ | refine wp_region_ext (by kernel_rfl) (by kernel_rfl) ?_);(repeat (go_big_quiet_step ((go_at_call 53;with_reducible exact Gives.inRegion (HM.out _)))));refine wpQuiet_nil ?_;intro _ hw';obtain ⟨_,hw''⟩:=hw';subst hw'')
 go_wp2
 go_ret
 exact ⟨rfl,(by repeat (first | with_reducible exact Up.refl _ | with_reducible apply Up.plus | apply Up.ext | apply Up.alloc | apply Up.drew | (refine Up.setCell ?_ (by simp;try omega) _)))⟩
end Go.Proofs.YteafglginnonnaaGreat
/- A copy of a list of numbers. Conditions: what lies in memory. -/
namespace Go.Proofs.YteafglginnonnaaGreat
set_option linter.unusedVariables false
set_option linter.unusedSimpArgs false
open Go.RowKit Go.Shelf
@[go_sem] theorem nil_int (a:Addr) (n c:Nat) (w:World):(binOp .eql 22 (.slice (some a) n c) (.slice none 0 0)).run Tryz.prog w = .ok (.bool false) w:=by kernel_rfl
@[go_sem] theorem nil_int0 (n c:Nat) (w:World):(binOp .eql 22 (.slice none n c) (.slice none 0 0)).run Tryz.prog w = .ok (.bool true) w:=by kernel_rfl
set_option maxRecDepth 100000 in
set_option maxHeartbeats 4000000 in
theorem iclone_any {K:Nat → Prop} {w:World} {a:Option Addr} {n c:Nat} {l:List Int} (hl:Lst TInt K w (.slice a n c) l) (h0:l ≠ []) (hn:l.length ≤ 100000):Calls Tryz.prog 92 #[.slice a n c] w fun e W=>∃ (g cap:Nat) (p:Ext),e = .returned (.slice (some ⟨g,0,none⟩) l.length cap) ∧ Own TInt 3 w.heap.size W (.slice (some ⟨g,0,none⟩) l.length cap) l ∧ W = ext w p:=by
 cases a with
 | none =>
  obtain ⟨_,_,h1,_,h3⟩:=hl
  simp at h1
  obtain ⟨b,o,e,_⟩:=h3 h0
  rw [← h1.1] at e
  cases e
 | some ad =>
  have HL:=hide hl
  clear hl h0
  go_enter Tryz.func92,Tryz.ntmps92
  go_wp2_with (at_builtin;with_reducible refine stopA rfl ?_)
  refine hide ?_
  refine wpList_copy elem_int rfl (.tmp 5) (.tmp 6) rfl (w0:=w) (W:=w.alloc (.cells #[] 3)) (by repeat (first | with_reducible exact Up.refl _ | with_reducible apply Up.plus | apply Up.ext | apply Up.alloc | apply Up.drew | (refine Up.setCell ?_ (by simp;try omega) _))) rfl (Box.mk rfl) (Nat.le_refl _) rfl (HL.out.up (by repeat (first | with_reducible exact Up.refl _ | with_reducible apply Up.plus | apply Up.ext | apply Up.alloc | apply Up.drew | (refine Up.setCell ?_ (by simp;try omega) _)))) hn (by decide) ?_
  intro g cap W' hu ho _
  have HE:=hide (show ∃ p,Own TInt 3 w.heap.size W' (.slice (some ⟨g,0,none⟩) l.length cap) l ∧ W' = ext w p from let ⟨p,hp⟩:=hu;⟨p,ho,hp⟩)
  clear hu ho
  go_wp2
  obtain ⟨p,hb,hp⟩:=HE.out
  exact bodyPost_ret (v:=.slice (some ⟨g,0,none⟩) l.length cap) (by simp [results,Tryz.results92,go_sem]) rfl ⟨_,_,p,rfl,hb,hp⟩
end Go.Proofs.YteafglginnonnaaGreat
/- Package watch: how many cells some offers leave together. Conditions: what lies in memory. -/
namespace Go.Proofs.YteafglginnonnaaGreat
set_option linter.unusedVariables false
set_option linter.unusedSimpArgs false
open Go.RowKit Go.Shelf
def mixT (T:Int → Int → VwD) (ch:List Int) (i k:Int):Bool:=decide (i = k) || !(ch.any (apartT T i k))
def cntT (T:Int → Int → VwD) (ch:List Int) (i:Int) (k:Nat):Nat:=(List.range k).countP fun (j:Nat)=>mixT T ch i j
def confT (T:Int → Int → VwD) (ch:List Int) (cn:Nat) (k:Nat):Nat:=(List.range k).foldl (fun m (i:Nat)=>max m (cntT T ch i cn)) 0
theorem cntT_succ (T:Int → Int → VwD) (ch:List Int) (i:Int) (k:Nat):cntT T ch i (k + 1) = cntT T ch i k + (if mixT T ch i k = true then 1 else 0):=by
 unfold cntT
 rw [List.range_succ,List.countP_append,List.countP_cons,List.countP_nil]
 simp
theorem cntT_le (T:Int → Int → VwD) (ch:List Int) (i:Int) (k:Nat):cntT T ch i k ≤ k:=by
 unfold cntT
 have:=List.countP_le_length (p:=fun j:Nat=>mixT T ch i j) (l:=List.range k)
 simpa using this
theorem confT_succ (T:Int → Int → VwD) (ch:List Int) (cn k:Nat):confT T ch cn (k + 1) = max (confT T ch cn k) (cntT T ch k cn):=by
 unfold confT
 rw [List.range_succ,List.foldl_append]
 rfl
theorem confT_le (T:Int → Int → VwD) (ch:List Int) (cn:Nat):∀ k,confT T ch cn k ≤ cn
 | 0=>Nat.zero_le _
 | k + 1=>by
  rw [confT_succ]
  have:=confT_le T ch cn k
  have:=cntT_le T ch k cn
  omega
set_option maxRecDepth 100000 in
set_option maxHeartbeats 20000000 in
theorem wconf_any {w:World} {PB MB:Nat} {oa:Option Addr} {on oc cn:Nat} {T:Int → Int → VwD} (hP:PlanT w PB MB oa on oc cn T) {K:Nat → Prop} {ca:Option Addr} {n c:Nat} {ch:List Int} (hc:Lst TInt K w (.slice ca n c) ch) (hr:∀ o ∈ ch,0 ≤ o ∧ o < on) :
 Gives Tryz.prog 90 #[.pointer (some ⟨PB,0,none⟩),.slice ca n c] w (.int .i64 (confT T ch cn cn)):=by
 have HC:=hide (fun (i k:Int) (i0:0 ≤ i) (i1:i < cn) (k0:0 ≤ k) (k1:k < cn) (W:World) (hu:Up w W) (bp bi bk:Nat) (hp:Box W bp #[.pointer (some ⟨PB,0,none⟩)] 105) (hbi:Box W bi #[.int .i64 i] 3) (hbk:Box W bk #[.int .i64 k] 3) =>
  anyint_any 133 #[.pointer (some ⟨bp,0,none⟩),.pointer (some ⟨bi,0,none⟩),.pointer (some ⟨bk,0,none⟩)] (enters_of Tryz.func133 (by kernel_rfl) rfl) (apartT T i k) (hc.up hu)
   (fun p V hpm hv=>wconf1_any (w:=w) ((hP.up hu).up hv) (hp.up hv) (hbi.up hv) (hbk.up hv) i0 i1 k0 k1 (hr p hpm).1 (hr p hpm).2))
 have HP:=hide hP
 have hn:=hP.n
 clear hP hc hr
 have q1:=HP.out.p.cell 1 rfl
 have lq:=HP.out.p.lt
 (unfold Gives;go_enter Tryz.func90,Tryz.ntmps90)
 go_wp2_with fail
 refine forgetW (fun V=>(Up w V ∧ Box V w.heap.size #[.pointer (some ⟨PB,0,none⟩)] 105) ∧ PlanT V PB MB oa on oc cn T) ⟨⟨(by repeat (first | with_reducible exact Up.refl _ | with_reducible apply Up.plus | apply Up.ext | apply Up.alloc | apply Up.drew | (refine Up.setCell ?_ (by simp;try omega) _))),(by repeat (first | exact Box.mk rfl | (refine Box.mk ?_;simp;done) | apply Box.ext | apply Box.drew | apply Box.alloc | apply Box.two1 | (refine Box.other ?_ (by omega) _ _)))⟩,HP.out.up (by repeat (first | with_reducible exact Up.refl _ | with_reducible apply Up.plus | apply Up.ext | apply Up.alloc | apply Up.drew | (refine Up.setCell ?_ (by simp;try omega) _)))⟩ ?_
 clear q1 lq
 intro V0 h0
 have H0:=hide h0
 clear h0
 go_loopw [5,14] (fun s5 s14 wr=>∃ k:Nat,k ≤ cn ∧ s14 = .int .i64 k ∧ s5 = .int .i64 (confT T ch cn k) ∧ Hid ((Up w wr ∧ Box wr w.heap.size #[.pointer (some ⟨PB,0,none⟩)] 105) ∧ PlanT wr PB MB oa on oc cn T)) (fun _ s14 _=>cn - (intOf s14).toNat)
 case atStart=>exact ⟨0,by omega,rfl,rfl,H0⟩
 case round =>
  obtain ⟨k,hk,rfl,rfl,HI⟩:=hrel
  clear H0
  have hcl:=confT_le T ch cn k
  by_cases hlt:k < cn
  · have hkb:decide ((k:Int) < cn) = true:=by simp;omega
    have hkn:decide (k < cn) = true:=by simp;omega
    have p0:=HI.out.1.2.cell 0 rfl
    have lp:=HI.out.1.2.lt
    have q1:=HI.out.2.p.cell 1 rfl
    have lq:=HI.out.2.p.lt
    have HM:=hide (confT_succ T ch cn k)
    go_wp2_with fail
    obtain ⟨bi,hbi⟩:∃ g,g = wr.heap.size:=⟨_,rfl⟩
    try rw [← hbi]
    refine forgetW (fun V=>((Up w V ∧ Box V w.heap.size #[.pointer (some ⟨PB,0,none⟩)] 105) ∧ PlanT V PB MB oa on oc cn T) ∧ Box V bi #[.int .i64 k] 3) ⟨⟨⟨(by repeat (first | with_reducible exact HI.out.1.1 | with_reducible exact Up.refl _ | with_reducible apply Up.ext | with_reducible apply Up.alloc | with_reducible apply Up.drew | (with_reducible refine Up.setCell ?_ (by simp only;omega) _))),HI.out.1.2.up (by repeat (first | with_reducible exact Up.refl _ | with_reducible apply Up.plus | apply Up.ext | apply Up.alloc | apply Up.drew | (refine Up.setCell ?_ (by simp;try omega) _)))⟩,HI.out.2.up (by repeat (first | with_reducible exact Up.refl _ | with_reducible apply Up.plus | apply Up.ext | apply Up.alloc | apply Up.drew | (refine Up.setCell ?_ (by simp;try omega) _)))⟩,by rw [hbi];exact (by repeat (first | exact Box.mk rfl | (refine Box.mk ?_;simp;done) | apply Box.ext | apply Box.drew | apply Box.alloc | apply Box.two1 | (refine Box.other ?_ (by omega) _ _)))⟩ ?_
    clear hbi p0 lp q1 lq HI
    intro V1 h1
    have H1:=hide h1
    clear h1
    go_loopw [7,21] (fun s7 s21 wr=>∃ j:Nat,j ≤ cn ∧ s21 = .int .i64 j ∧ s7 = .int .i64 (cntT T ch k j) ∧ Hid (((Up w wr ∧ Box wr w.heap.size #[.pointer (some ⟨PB,0,none⟩)] 105) ∧ PlanT wr PB MB oa on oc cn T) ∧ Box wr bi #[.int .i64 k] 3)) (fun _ s21 _=>cn - (intOf s21).toNat)
    case atStart=>exact ⟨0,by omega,rfl,rfl,H1⟩
    case round =>
     obtain ⟨j,hj,rfl,rfl,HJ⟩:=hrel
     clear H1
     have hcj:=cntT_le T ch k j
     by_cases hlj:j < cn
     · have hjb:decide ((j:Int) < cn) = true:=by simp;omega
       have hjn:decide (j < cn) = true:=by simp;omega
       have hsu:=cntT_succ T ch k j
       have i00:=HJ.out.2.cell 0 rfl
       have li:=HJ.out.2.lt
       by_cases hkj:k = j
       · have hb1:((k:Int) == (j:Int)) = true:=by simp;omega
         have HS:=hide (show cntT T ch k (j + 1) = cntT T ch k j + 1 by rw [hsu,show mixT T ch k j = true by unfold mixT;rw [decide_eq_true (by omega)];rfl,if_pos rfl])
         clear hsu hkj
         go_wp2_with fail
         go_roundw
         case rel=>exact ⟨j + 1,by omega,by go_num,by rw [HS.out];go_num,hide ⟨⟨⟨(by repeat (first | with_reducible exact HJ.out.1.1.1 | with_reducible exact Up.refl _ | with_reducible apply Up.ext | with_reducible apply Up.alloc | with_reducible apply Up.drew | (with_reducible refine Up.setCell ?_ (by simp only;omega) _))),HJ.out.1.1.2.up (by repeat (first | with_reducible exact Up.refl _ | with_reducible apply Up.plus | apply Up.ext | apply Up.alloc | apply Up.drew | (refine Up.setCell ?_ (by simp;try omega) _)))⟩,HJ.out.1.2.up (by repeat (first | with_reducible exact Up.refl _ | with_reducible apply Up.plus | apply Up.ext | apply Up.alloc | apply Up.drew | (refine Up.setCell ?_ (by simp;try omega) _)))⟩,HJ.out.2.up (by repeat (first | with_reducible exact Up.refl _ | with_reducible apply Up.plus | apply Up.ext | apply Up.alloc | apply Up.drew | (refine Up.setCell ?_ (by simp;try omega) _)))⟩⟩
         case measure=>simp [intOf];omega
       · have hb1:((k:Int) == (j:Int)) = false:=by simp;omega
         have HC2:=hide (HC.out k j (by omega) (by omega) (by omega) (by omega))
         have hmx:mixT T ch k j = !(ch.any (apartT T k j)):=by unfold mixT;rw [decide_eq_false (by omega)];rfl
         rw [hmx] at hsu
         generalize ch.any (apartT T k j) = A at HC2 hsu
         cases A
         · have HS:=hide (show cntT T ch k (j + 1) = cntT T ch k j + 1 by rw [hsu];rfl)
           clear hsu hkj hmx
           go_wp2_with fail
           go_at_call 134
           obtain ⟨bk,hbk⟩:∃ g,g = wr.heap.size:=⟨_,rfl⟩
           try rw [← hbk]
           refine forgetK (fun V=>(((Up w V ∧ Box V w.heap.size #[.pointer (some ⟨PB,0,none⟩)] 105) ∧ PlanT V PB MB oa on oc cn T) ∧ Box V bi #[.int .i64 k] 3) ∧ Box V bk #[.int .i64 j] 3) ⟨⟨⟨⟨(by repeat (first | with_reducible exact HJ.out.1.1.1 | with_reducible exact Up.refl _ | with_reducible apply Up.ext | with_reducible apply Up.alloc | with_reducible apply Up.drew | (with_reducible refine Up.setCell ?_ (by simp only;omega) _))),HJ.out.1.1.2.up (by repeat (first | with_reducible exact Up.refl _ | with_reducible apply Up.plus | apply Up.ext | apply Up.alloc | apply Up.drew | (refine Up.setCell ?_ (by simp;try omega) _)))⟩,HJ.out.1.2.up (by repeat (first | with_reducible exact Up.refl _ | with_reducible apply Up.plus | apply Up.ext | apply Up.alloc | apply Up.drew | (refine Up.setCell ?_ (by simp;try omega) _)))⟩,HJ.out.2.up (by repeat (first | with_reducible exact Up.refl _ | with_reducible apply Up.plus | apply Up.ext | apply Up.alloc | apply Up.drew | (refine Up.setCell ?_ (by simp;try omega) _)))⟩,by rw [hbk];exact (by repeat (first | exact Box.mk rfl | (refine Box.mk ?_;simp;done) | apply Box.ext | apply Box.drew | apply Box.alloc | apply Box.two1 | (refine Box.other ?_ (by omega) _ _)))⟩ ?_
           clear hbk HJ i00 li
           intro V2 h2
           have HJ:=hide h2.1
           refine (HC2.out V2 h2.1.1.1.1 w.heap.size bi bk h2.1.1.1.2 h2.1.2 h2.2).mono ?_
           clear h2
           intro q1
           go_wp2_with fail
           go_roundw
           case rel=>exact ⟨j + 1,by omega,by go_num,by rw [HS.out];go_num,hide ⟨⟨⟨(by repeat (first | with_reducible exact HJ.out.1.1.1 | with_reducible exact Up.refl _ | with_reducible apply Up.ext | with_reducible apply Up.alloc | with_reducible apply Up.drew | (with_reducible refine Up.setCell ?_ (by simp only;omega) _))),HJ.out.1.1.2.up (by repeat (first | with_reducible exact Up.refl _ | with_reducible apply Up.plus | apply Up.ext | apply Up.alloc | apply Up.drew | (refine Up.setCell ?_ (by simp;try omega) _)))⟩,HJ.out.1.2.up (by repeat (first | with_reducible exact Up.refl _ | with_reducible apply Up.plus | apply Up.ext | apply Up.alloc | apply Up.drew | (refine Up.setCell ?_ (by simp;try omega) _)))⟩,HJ.out.2.up (by repeat (first | with_reducible exact Up.refl _ | with_reducible apply Up.plus | apply Up.ext | apply Up.alloc | apply Up.drew | (refine Up.setCell ?_ (by simp;try omega) _)))⟩⟩
           case measure=>simp [intOf];omega
         · have HS:=hide (show cntT T ch k (j + 1) = cntT T ch k j by rw [hsu];rfl)
           clear hsu hkj hmx
           go_wp2_with fail
           go_at_call 134
           obtain ⟨bk,hbk⟩:∃ g,g = wr.heap.size:=⟨_,rfl⟩
           try rw [← hbk]
           refine forgetK (fun V=>(((Up w V ∧ Box V w.heap.size #[.pointer (some ⟨PB,0,none⟩)] 105) ∧ PlanT V PB MB oa on oc cn T) ∧ Box V bi #[.int .i64 k] 3) ∧ Box V bk #[.int .i64 j] 3) ⟨⟨⟨⟨(by repeat (first | with_reducible exact HJ.out.1.1.1 | with_reducible exact Up.refl _ | with_reducible apply Up.ext | with_reducible apply Up.alloc | with_reducible apply Up.drew | (with_reducible refine Up.setCell ?_ (by simp only;omega) _))),HJ.out.1.1.2.up (by repeat (first | with_reducible exact Up.refl _ | with_reducible apply Up.plus | apply Up.ext | apply Up.alloc | apply Up.drew | (refine Up.setCell ?_ (by simp;try omega) _)))⟩,HJ.out.1.2.up (by repeat (first | with_reducible exact Up.refl _ | with_reducible apply Up.plus | apply Up.ext | apply Up.alloc | apply Up.drew | (refine Up.setCell ?_ (by simp;try omega) _)))⟩,HJ.out.2.up (by repeat (first | with_reducible exact Up.refl _ | with_reducible apply Up.plus | apply Up.ext | apply Up.alloc | apply Up.drew | (refine Up.setCell ?_ (by simp;try omega) _)))⟩,by rw [hbk];exact (by repeat (first | exact Box.mk rfl | (refine Box.mk ?_;simp;done) | apply Box.ext | apply Box.drew | apply Box.alloc | apply Box.two1 | (refine Box.other ?_ (by omega) _ _)))⟩ ?_
           clear hbk HJ i00 li
           intro V2 h2
           have HJ:=hide h2.1
           refine (HC2.out V2 h2.1.1.1.1 w.heap.size bi bk h2.1.1.1.2 h2.1.2 h2.2).mono ?_
           clear h2
           intro q1
           go_wp2_with fail
           go_roundw
           case rel=>exact ⟨j + 1,by omega,by go_num,by rw [HS.out],hide ⟨⟨⟨(by repeat (first | with_reducible exact HJ.out.1.1.1 | with_reducible exact Up.refl _ | with_reducible apply Up.ext | with_reducible apply Up.alloc | with_reducible apply Up.drew | (with_reducible refine Up.setCell ?_ (by simp only;omega) _))),HJ.out.1.1.2.up (by repeat (first | with_reducible exact Up.refl _ | with_reducible apply Up.plus | apply Up.ext | apply Up.alloc | apply Up.drew | (refine Up.setCell ?_ (by simp;try omega) _)))⟩,HJ.out.1.2.up (by repeat (first | with_reducible exact Up.refl _ | with_reducible apply Up.plus | apply Up.ext | apply Up.alloc | apply Up.drew | (refine Up.setCell ?_ (by simp;try omega) _)))⟩,HJ.out.2.up (by repeat (first | with_reducible exact Up.refl _ | with_reducible apply Up.plus | apply Up.ext | apply Up.alloc | apply Up.drew | (refine Up.setCell ?_ (by simp;try omega) _)))⟩⟩
           case measure=>simp [intOf];omega
     · have hjb:decide ((j:Int) < cn) = false:=by simp;omega
       have hjn:decide (j < cn) = false:=by simp;omega
       obtain rfl:j = cn:=by omega
       go_wp2_with fail
       go_roundw
       case rel=>exact ⟨k + 1,by omega,by go_num,by rw [HM.out];go_num,hide HJ.out.1⟩
       case measure=>simp [intOf];omega
  · have hkb:decide ((k:Int) < cn) = false:=by simp;omega
    have hkn:decide (k < cn) = false:=by simp;omega
    obtain rfl:k = cn:=by omega
    go_wp2
    go_ret
    exact ⟨rfl,(by repeat (first | with_reducible exact HI.out.1.1 | with_reducible exact Up.refl _ | with_reducible apply Up.ext | with_reducible apply Up.alloc | with_reducible apply Up.drew | (with_reducible refine Up.setCell ?_ (by simp only;omega) _)))⟩
end Go.Proofs.YteafglginnonnaaGreat
/- Package watch: what a choice proves at the worst. Conditions: what lies in memory. -/
namespace Go.Proofs.YteafglginnonnaaGreat
set_option linter.unusedVariables false
set_option linter.unusedSimpArgs false
open Go.RowKit Go.Shelf
def worstT (T:Int → Int → VwD) (su:Int → Bool) (cn:Nat):Nat → List Int → Nat
 | 0,ch=>confT T ch cn cn
 | f + 1,ch=>(List.range ch.length).foldl (fun m i=>if su (ch.getD i 0) = true then m else max m (worstT T su cn f (ch.eraseIdx i))) (confT T ch cn cn)
def wstepT (T:Int → Int → VwD) (su:Int → Bool) (cn f:Nat) (ch:List Int) (k:Nat):Nat :=
 (List.range k).foldl (fun m i=>if su (ch.getD i 0) = true then m else max m (worstT T su cn f (ch.eraseIdx i))) (confT T ch cn cn)
theorem worstT_zero (T:Int → Int → VwD) (su:Int → Bool) (cn:Nat) (ch:List Int):worstT T su cn 0 ch = confT T ch cn cn:=rfl
theorem wstepT_zero (T:Int → Int → VwD) (su:Int → Bool) (cn f:Nat) (ch:List Int):wstepT T su cn f ch 0 = confT T ch cn cn:=rfl
theorem wstepT_all (T:Int → Int → VwD) (su:Int → Bool) (cn f:Nat) (ch:List Int):worstT T su cn (f + 1) ch = wstepT T su cn f ch ch.length:=rfl
theorem wstepT_succ (T:Int → Int → VwD) (su:Int → Bool) (cn f:Nat) (ch:List Int) (k:Nat):wstepT T su cn f ch (k + 1) = if su (ch.getD k 0) = true then wstepT T su cn f ch k else max (wstepT T su cn f ch k) (worstT T su cn f (ch.eraseIdx k)):=by
 unfold wstepT
 rw [List.range_succ,List.foldl_append]
 rfl
theorem worstT_le (T:Int → Int → VwD) (su:Int → Bool) (cn:Nat):∀ f ch,worstT T su cn f ch ≤ cn
 | 0,ch=>confT_le T ch cn cn
 | f + 1,ch=>by
  rw [wstepT_all]
  generalize ch.length = k
  induction k with
  | zero=>rw [wstepT_zero];exact confT_le T ch cn cn
  | succ k ih =>
   rw [wstepT_succ]
   have:=worstT_le T su cn f (ch.eraseIdx k)
   split <;> omega
attribute [irreducible] wstepT worstT
def sureO (offers:List OffD) (o:Int):Bool:=((offers[o.toNat]?).map (·.sure)).getD false
abbrev DelC:Prop:=∀ {w w1:World},Up w w1 → ∀ {l:List Int} {g cap:Nat},Own TInt 3 w.heap.size w1 (.slice (some ⟨g,0,none⟩) l.length cap) l → ∀ {i:Nat},i < l.length →
 Calls Tryz.prog 91 #[.slice (some ⟨g,0,none⟩) l.length cap,.int .i64 i,.int .i64 (i + 1:Nat)] w1 fun e W=>e = .returned (.slice (some ⟨g,0,none⟩) (l.length - 1) cap) ∧ Up w W ∧ Own TInt 3 w.heap.size W (.slice (some ⟨g,0,none⟩) (l.length - 1) cap) (l.eraseIdx i)
theorem ixs (k:Nat):Value.int .i64 ((k:Int) + 1) = .int .i64 ((k + 1:Nat):Int):=by rw [Int.natCast_add];rfl
theorem mxs (a b:Nat):Value.int .i64 (max (a:Int) b) = .int .i64 ((max a b:Nat):Int):=by congr 1;omega
set_option maxRecDepth 100000 in
set_option maxHeartbeats 20000000 in
theorem wworst_any (HD:DelC) {PB MB:Nat} {oa:Option Addr} {on oc cn:Nat} {T:Int → Int → VwD} {offers:List OffD}:∀ (f:Nat),f ≤ 1000 → ∀ {w:World} {KO K:Nat → Prop} {ca:Option Addr} {n c:Nat} {ch:List Int},
 PlanT w PB MB oa on oc cn T → Lst TOff KO w (.slice oa on oc) offers → Lst TInt K w (.slice ca n c) ch → (∀ o ∈ ch,0 ≤ o ∧ o < on) → ch.length ≤ 1000 →
 Gives Tryz.prog 48 #[.pointer (some ⟨PB,0,none⟩),.slice ca n c,.int .i64 f] w (.int .i64 (worstT T (sureO offers) cn f ch))
 | 0,hf,w,KO,K,ca,n,c,ch,hP,hO,hc,hr,hn=>by
  have HC:=hide (wconf_any hP hc hr)
  clear hP hO hc hr
  rw [worstT_zero]
  (unfold Gives;go_enter Tryz.func48,Tryz.ntmps48)
  go_wp2_with (go_at_call 90;refine (HC.out).mono ?_;intro _)
  go_ret
  exact ⟨rfl,(by repeat (first | with_reducible exact Up.refl _ | with_reducible apply Up.plus | apply Up.ext | apply Up.alloc | apply Up.drew | (refine Up.setCell ?_ (by simp;try omega) _)))⟩
 | f + 1,hf,w,KO,K,ca,n,c,ch,hP,hO,hc,hr,hn=>by
  obtain ⟨m0,hm0⟩:∃ m0:Nat,m0 = confT T ch cn cn:=⟨_,rfl⟩
  have hm0c:m0 ≤ cn:=by rw [hm0];exact confT_le T ch cn cn
  have HC:=hide (wconf_any hP hc hr)
  rw [← hm0] at HC
  have HR:=hide (fun (W:World) (hu:Up w W) (g cap:Nat) (l:List Int) (hL:Lst TInt (fun _=>True) W (.slice (some ⟨g,0,none⟩) l.length cap) l) (h1:∀ o ∈ l,0 ≤ o ∧ o < on) (h2:l.length ≤ 1000) =>
   wworst_any HD f (by omega) (hP.up hu) (hO.up hu) hL h1 h2)
  have HA:=hide (And.intro hP (And.intro hO (And.intro hc hr)))
  have hcn:=(Ints.at hc).1
  have hon:=(Offs.at hO).1
  have hct:=hP.n
  have HN:=hide (And.intro hcn (And.intro hon hn))
  have hnn:n ≤ 1000:=by omega
  clear hP hO hc hr hcn hon hn
  rw [wstepT_all]
  obtain ⟨R,hR⟩:∃ R:Nat,R = wstepT T (sureO offers) cn f ch ch.length:=⟨_,rfl⟩
  have HS0:=hide (show m0 = wstepT T (sureO offers) cn f ch 0 by rw [wstepT_zero];exact hm0)
  rw [← hR]
  have HRR:=hide hR
  clear hR hm0
  have hf0:decide (((f:Nat):Int) + 1 = 0) = false:=by simp;omega
  have hf1:¬ (((f:Nat):Int) + 1 = 0):=by omega
  have hf2:(((f:Nat):Int) + 1 == 0) = false:=by simp;omega
  (unfold Gives;go_enter Tryz.func48,Tryz.ntmps48)
  go_wp2_with (go_at_call 90;refine (HC.out).mono ?_;intro _)
  go_loopw [7,18] (fun s7 s18 wr=>∃ k m:Nat,k ≤ n ∧ m ≤ cn ∧ s18 = .int .i64 k ∧ s7 = .int .i64 m ∧ Hid (m = wstepT T (sureO offers) cn f ch k) ∧ Up w wr) (fun _ s18 _=>n - (intOf s18).toNat)
  case atStart=>exact ⟨0,m0,by omega,by omega,rfl,rfl,HS0,(by repeat (first | with_reducible exact Up.refl _ | with_reducible apply Up.plus | apply Up.ext | apply Up.alloc | apply Up.drew | (refine Up.setCell ?_ (by simp;try omega) _)))⟩
  case round =>
   obtain ⟨k,m,hk,hmc,rfl,rfl,HM,hu⟩:=hrel
   clear HS0 hm0c
   by_cases hlt:k < n
   · have hkb:decide ((k:Int) < n) = true:=by simp;omega
     have hkn:decide (k < n) = true:=by simp;omega
     obtain ⟨b,o,p,rfl,hKb,hbw,hp,hc0⟩:=(Ints.at (HA.out.2.2.1.keeps (hu.keeps K))).2.2 k hlt
     have hpm:=HA.out.2.2.2 p (List.mem_of_getElem? hp)
     obtain ⟨q,rfl⟩:=Int.eq_ofNat_of_zero_le hpm.1
     have hqn:q < on:=by omega
     obtain ⟨b2,o2,x,rfl,hKb2,hb2w,hx,-,-,-,-,-,-,-,-,-,-,hs0⟩:=(Offs.at (HA.out.2.1.keeps (hu.keeps KO))).2.2 q hqn
     have q0:=(HA.out.1.up hu).p.cell 0 rfl
     have lq:=(HA.out.1.up hu).p.lt
     have hg:ch.getD k 0 = (q:Int):=by rw [List.getD,hp];rfl
     have hsu:sureO offers (ch.getD k 0) = x.sure:=by unfold sureO;rw [hg,Int.toNat_natCast,hx];rfl
     have hst:=wstepT_succ T (sureO offers) cn f ch k
     rw [hsu] at hst
     have HU:=hide hu
     have hkl:k < ch.length:=by rw [← HN.out.1];exact hlt
     rcases hxs:x.sure with _ | _
     · rw [hxs] at hs0 hst
       rw [if_neg (by decide)] at hst
       have h0:ch ≠ []:=by intro e;subst e;simp at hkl
       have HCL:=hide (iclone_any (HA.out.2.2.1.keeps (hu.keeps K)) h0 (by have:=HN.out.2.2;omega))
       obtain ⟨m1,hm1⟩:∃ m1:Nat,m1 = worstT T (sureO offers) cn f (ch.eraseIdx k):=⟨_,rfl⟩
       have hm1c:m1 ≤ cn:=by rw [hm1];exact worstT_le T (sureO offers) cn f (ch.eraseIdx k)
       have HS:=hide (show max m m1 = wstepT T (sureO offers) cn f ch (k + 1) by rw [hst,hm1,HM.out])
       have HM1:=hide hm1
       have HL:=hide hkl
       clear hp hx hKb hKb2 hg hsu hst hxs hkl h0 hu hpm hm1 HM
       go_wp2_with fail
       go_at_call 92
       refine HCL.out.mono ?_
       rintro _ _ ⟨g,cap,px,rfl,ho1,rfl⟩
       have HD1:=hide (HD ((Up.refl wr).ext px) ho1 HL.out)
       clear ho1
       go_wp2_with fail
       go_at_call 91
       refine (show Calls Tryz.prog 91 _ _ _ from HD1.out).mono ?_
       rintro _ W2 ⟨rfl,hu2,ho2⟩
       have hel:(ch.eraseIdx k).length = ch.length - 1:=List.length_eraseIdx_of_lt HL.out
       have HR1:=HR.out W2 (HU.out.trans hu2) g cap (ch.eraseIdx k) (by rw [hel];exact (ho2.lies (by rw [hel];have:=HN.out.2.2;omega)).mono fun _ _ _=>trivial) (fun o ho=>HA.out.2.2.2 o (List.mem_of_mem_eraseIdx ho)) (by have:=HN.out.2.2;omega)
       rw [← HM1.out,hel] at HR1
       have HR2:=hide HR1
       have HU2:=hide (HU.out.trans hu2)
       clear HR1 hel ho2 hu2 HD1 HCL
       go_wp2_with (go_at_call 48;refine (HR2.out).mono ?_;intro _)
       go_roundw
       case rel =>
        exact ⟨k + 1,max m m1,by omega,by omega,ixs k,mxs m m1,HS,HU2.out.ext _⟩
       case measure=>simp [intOf];omega
     · rw [hxs] at hs0 hst
       rw [if_pos rfl] at hst
       have HS:=hide (HM.out.trans hst.symm)
       clear hp hx hKb hKb2 hg hsu hst hxs hu hpm HM
       go_wp2_with fail
       go_roundw
       case rel=>exact ⟨k + 1,m,by omega,hmc,ixs k,rfl,HS,HU.out⟩
       case measure=>simp [intOf];omega
   · have hkb:decide ((k:Int) < n) = false:=by simp;omega
     obtain rfl:k = n:=by omega
     have hRm:R = m:=by rw [HRR.out,HM.out,HN.out.1]
     clear HRR HM
     go_wp2_with fail
     go_ret
     exact ⟨by rw [hRm];rfl,hu⟩
end Go.Proofs.YteafglginnonnaaGreat
/- Package watch: the error of a choice. Conditions: what lies in memory. -/
namespace Go.Proofs.YteafglginnonnaaGreat
set_option linter.unusedVariables false
set_option linter.unusedSimpArgs false
open Go.RowKit Go.Shelf
def chBad (on:Nat) (l:List Int) (i:Nat):Bool:=decide (l.getD i 0 < 0) || decide ((on:Int) ≤ l.getD i 0) || (decide (0 < i) && decide (l.getD i 0 ≤ l.getD (i - 1) 0))
def chE (on:Nat) (l:List Int):Int:=if (List.range l.length).all fun i=>!chBad on l i then 0 else 7
theorem chE_bad {on:Nat} {l:List Int} {k:Nat} (hk:k < l.length) (h:chBad on l k = true):chE on l = 7:=by
 unfold chE
 rw [if_neg]
 intro h1
 have:=List.all_eq_true.1 h1 k (List.mem_range.2 hk)
 rw [h] at this
 simp at this
theorem chE_ok {on:Nat} {l:List Int} (h:∀ i,i < l.length → chBad on l i = false):chE on l = 0:=by
 unfold chE
 rw [if_pos]
 exact List.all_eq_true.2 fun i hi=>by rw [h i (List.mem_range.1 hi)];rfl
set_option maxRecDepth 100000 in
set_option maxHeartbeats 8000000 in
theorem wchk_any {w:World} {oa:Option Addr} {on oc:Nat} (hon:on ≤ 1000000) {K:Nat → Prop} {a:Option Addr} {n c:Nat} {l:List Int} (hl:Lst TInt K w (.slice a n c) l) :
 Gives Tryz.prog 46 #[.slice oa on oc,.slice a n c] w (.int .i64 (chE on l)):=by
 have hn:=(Ints.at hl).1
 have hm:=(Ints.at hl).2.1
 have HF:=hide hl
 have HN:=hide hn
 clear hl hn
 (unfold Gives;go_enter Tryz.func46,Tryz.ntmps46)
 go_wp2
 go_loopw [9] (fun s9 wr=>∃ k:Nat,k ≤ n ∧ s9 = .int .i64 k ∧ Up w wr ∧ Hid (∀ i,i < k → chBad on l i = false)) (fun s9 _=>n - (intOf s9).toNat)
 case atStart=>exact ⟨0,by omega,rfl,Up.refl _,hide (fun i hi=>by omega)⟩
 case round =>
  obtain ⟨k,hk,rfl,hu,hb⟩:=hrel
  by_cases hlt:k < n
  · obtain ⟨b,o,p,rfl,hKb,hbw,hp,hc0⟩:=(Ints.at (HF.out.keeps (hu.keeps K))).2.2 k hlt
    have hkb:decide ((k:Int) < n) = true:=by simp;omega
    have HP:=hide (show l.getD k 0 = p by rw [List.getD,hp];rfl)
    have HU:=hide hu
    by_cases h1:p < 0
    · have d1:decide (p < 0) = true:=decide_eq_true h1
      have HB:=hide (chE_bad (on:=on) (HN.out ▸ hlt) (show chBad on l k = true by unfold chBad;rw [HP.out];simp [h1]))
      clear hp hu hKb
      go_wp2
      go_ret
      exact ⟨by rw [HB.out];rfl,HU.out⟩
    have d1:decide (p < 0) = false:=decide_eq_false h1
    by_cases h2:(on:Int) ≤ p
    · have d2:decide ((on:Int) ≤ p) = true:=decide_eq_true h2
      have HB:=hide (chE_bad (on:=on) (HN.out ▸ hlt) (show chBad on l k = true by unfold chBad;rw [HP.out];simp [h2]))
      clear hp hu hKb
      go_wp2
      go_ret
      exact ⟨by rw [HB.out];rfl,HU.out⟩
    have d2:decide ((on:Int) ≤ p) = false:=decide_eq_false h2
    by_cases h3:k = 0
    · have h30:¬ (0 < k):=by omega
      have h31:¬ ((0:Int) < k):=by omega
      have HB:=hide (show chBad on l k = false by unfold chBad;rw [HP.out];simp [h3,h1];omega)
      clear hp hu hKb h3
      go_wp2
      refine ⟨⟨k + 1,by omega,by go_num,HU.out,hide fun i hi=>?_⟩,by simp [intOf];omega⟩
      rcases Nat.lt_or_ge i k with h | h
      · exact hb.out i h
      · rw [show i = k by omega]
        exact HB.out
    have d3:decide ((0:Int) < k) = true:=decide_eq_true (by omega)
    have d3n:decide (0 < k) = true:=decide_eq_true (by omega)
    have hkn:decide (k < n) = true:=decide_eq_true hlt
    obtain ⟨b',o',q,hbo,hKq,hbq,hq,hq0⟩:=(Ints.at (HF.out.keeps (hu.keeps K))).2.2 (k - 1) (by omega)
    simp at hbo
    obtain ⟨rfl,rfl⟩:=hbo
    have HQ:=hide (show l.getD (k - 1) 0 = q by rw [List.getD,hq];rfl)
    have e1:((k:Int) - 1).toNat = k - 1:=by omega
    by_cases h4:p ≤ q
    · have d4:decide (p ≤ q) = true:=decide_eq_true h4
      have HB:=hide (chE_bad (on:=on) (HN.out ▸ hlt) (show chBad on l k = true by unfold chBad;rw [HP.out,HQ.out];simp [h4];omega))
      clear hp hu hKb hKq hq
      go_wp2
      go_ret
      exact ⟨by rw [HB.out];rfl,HU.out⟩
    · have d4:decide (p ≤ q) = false:=decide_eq_false h4
      have HB:=hide (show chBad on l k = false by unfold chBad;rw [HP.out,HQ.out];simp [h1,h4];omega)
      clear hp hu hKb hKq hq
      go_wp2
      refine ⟨⟨k + 1,by omega,by go_num,HU.out,hide fun i hi=>?_⟩,by simp [intOf];omega⟩
      rcases Nat.lt_or_ge i k with h | h
      · exact hb.out i h
      · rw [show i = k by omega]
        exact HB.out
  · have hkb:decide ((k:Int) < n) = false:=by simp;omega
    obtain rfl:k = n:=by omega
    go_wp2
    go_ret
    exact ⟨by rw [chE_ok (by rw [← HN.out];exact hb.out)];rfl,hu⟩
end Go.Proofs.YteafglginnonnaaGreat
/- Package watch: the views of a checked watch, as a table; what a choice that is right means. Conditions: a valid watch. -/
namespace Go.Proofs.YteafglginnonnaaGreat
set_option linter.unusedVariables false
set_option linter.unusedSimpArgs false
open Go.RowKit Go.Shelf
def tabV (s:SkyD) (d:DriftD) (t:Int) (set:List BoxD) (offers:List OffD) (o k:Int):VwD :=
 match offers[o.toNat]? with
 | none=>(false,false,0,0)
 | some x=>match (cellsO s d t set x)[k.toNat]? with
  | none=>(false,false,0,0)
  | some b=>viewK (kndOf s x) (cellA b)
theorem rowE_at {s:SkyD} {d:DriftD} {t:Int} {set:List BoxD} {i:Nat} {o:OffD} {q:Nat} {x:Ent} (h:(rowE s d t set i o)[q]? = some x):∃ b,(cellsO s d t set o)[q]? = some b ∧ x = ((i:Int),(q:Int),viewK (kndOf s o) (cellA b)):=by
 unfold rowE at h
 rw [List.getElem?_mapIdx] at h
 obtain ⟨b,hb,rfl⟩:=Option.map_eq_some_iff.1 h
 exact ⟨b,hb,rfl⟩
theorem tabE_mem {s:SkyD} {d:DriftD} {t:Int} {set:List BoxD} {offers:List OffD} {x:Ent} (hx:x ∈ tabE s d t set offers):∃ (i:Nat) (o:OffD) (q:Nat) (b:BoxD),offers[i]? = some o ∧ (cellsO s d t set o)[q]? = some b ∧ x = ((i:Int),(q:Int),viewK (kndOf s o) (cellA b)):=by
 unfold tabE at hx
 obtain ⟨row,hrow,hx⟩:=List.mem_flatten.1 hx
 obtain ⟨i,hi,rfl⟩:=List.getElem_of_mem hrow
 rw [List.getElem_mapIdx] at hx
 obtain ⟨q,hq,hxq⟩:=List.getElem_of_mem hx
 obtain ⟨b,hb,e⟩:=rowE_at (x:=x) (q:=q) (by rw [List.getElem?_eq_getElem hq,hxq])
 exact ⟨i,_,q,b,List.getElem?_eq_getElem (by simpa using hi),hb,e⟩
theorem mem_tabE {s:SkyD} {d:DriftD} {t:Int} {set:List BoxD} {offers:List OffD} {i:Nat} {o:OffD} {q:Nat} {b:BoxD} (ho:offers[i]? = some o) (hb:(cellsO s d t set o)[q]? = some b):((i:Int),(q:Int),viewK (kndOf s o) (cellA b)) ∈ tabE s d t set offers:=by
 unfold tabE
 refine List.mem_flatten.2 ⟨rowE s d t set i o,?_,?_⟩
 · exact List.mem_of_getElem? (i:=i) (by rw [List.getElem?_mapIdx,ho];rfl)
 · refine List.mem_of_getElem? (i:=q) ?_
   unfold rowE
   rw [List.getElem?_mapIdx,hb]
   rfl
theorem tabV_at {s:SkyD} {d:DriftD} {t:Int} {set:List BoxD} {offers:List OffD} {i:Nat} {o:OffD} {q:Nat} {b:BoxD} (ho:offers[i]? = some o) (hb:(cellsO s d t set o)[q]? = some b):tabV s d t set offers i q = viewK (kndOf s o) (cellA b):=by
 unfold tabV
 rw [Int.toNat_natCast,ho]
 dsimp only
 rw [Int.toNat_natCast,hb]
theorem planT_of {s:SkyD} {d:DriftD} {t:Int} {set:List BoxD} {offers:List OffD} (hW:watchE s d t set offers = 0) {W:World} {PB MB:Nat} {oa:Option Addr} {on oc bn:Nat} (hb:Box W PB #[.slice oa on oc,.int .i64 bn,.map (some MB)] 143) (hm:MapV W MB (tabE s d t set offers)) (hon:on = offers.length) (hbn:bn = set.length) :
 PlanT W PB MB oa on oc bn (tabV s d t set offers):=by
 obtain ⟨_,_,⟨h1,h2⟩,h3⟩:=watchE_zero hW
 refine ⟨hb,⟨_,hm,?_,?_⟩,by omega⟩
 · intro x hx
   obtain ⟨i,o,q,b,ho,hq,rfl⟩:=tabE_mem hx
   have i1:=(List.getElem?_eq_some_iff.1 ho).1
   have q1:=(List.getElem?_eq_some_iff.1 hq).1
   have q2:=(offW_zero (h3 o (List.mem_of_getElem? ho))).2.2.2.2
   dsimp only
   unfold I64
   omega
 · intro i k i0 i1 k0 k1
   obtain ⟨i,rfl⟩:=Int.eq_ofNat_of_zero_le i0
   obtain ⟨k,rfl⟩:=Int.eq_ofNat_of_zero_le k0
   obtain ⟨o,ho⟩:∃ o,offers[i]? = some o:=⟨_,List.getElem?_eq_getElem (by omega)⟩
   have q2:=(offW_zero (h3 o (List.mem_of_getElem? ho))).2.2.2.2
   obtain ⟨b,hb⟩:∃ b,(cellsO s d t set o)[k]? = some b:=⟨_,List.getElem?_eq_getElem (by omega)⟩
   refine ⟨?_,?_⟩
   · have:=mem_tabE ho hb
     rw [← tabV_at ho hb] at this
     exact this
   · intro x hx e1 e2
     obtain ⟨i',o',q',b',ho',hq',rfl⟩:=tabE_mem hx
     dsimp only at e1 e2 ⊢
     obtain rfl:i' = i:=by omega
     obtain rfl:q' = k:=by omega
     rw [ho] at ho'
     cases ho'
     rw [hb] at hq'
     cases hq'
     rw [tabV_at ho hb]
theorem chE_two (on:Nat) (l:List Int):chE on l = 0 ∨ chE on l = 7:=by
 unfold chE
 split
 · exact .inl rfl
 · exact .inr rfl
theorem chE_good {on:Nat} {l:List Int} (h:chE on l = 0):∀ i,i < l.length → chBad on l i = false:=fun i hi=>by
 rcases hb:chBad on l i with _ | _
 · rfl
 · rw [chE_bad hi hb] at h;cases h
theorem chBad_no {on:Nat} {l:List Int} {i:Nat} (h:chBad on l i = false):(0 ≤ l.getD i 0 ∧ l.getD i 0 < on) ∧ (0 < i → l.getD (i - 1) 0 < l.getD i 0):=by
 unfold chBad at h
 simp only [Bool.or_eq_false_iff,Bool.and_eq_false_iff,decide_eq_false_iff_not] at h
 omega
theorem chE_ge {on:Nat} {l:List Int} (h:chE on l = 0):∀ i:Nat,i < l.length → (i:Int) ≤ l.getD i 0
 | 0,hi=>(chBad_no (chE_good h 0 hi)).1.1
 | i + 1,hi=>by
  have h1:=chE_ge h i (by omega)
  have h2:=(chBad_no (chE_good h (i + 1) hi)).2 (by omega)
  rw [Nat.add_sub_cancel] at h2
  omega
theorem chE_zero {on:Nat} {l:List Int} (h:chE on l = 0):(∀ o ∈ l,0 ≤ o ∧ o < on) ∧ l.length ≤ on:=by
 refine ⟨fun o ho=>?_,?_⟩
 · obtain ⟨i,hi,rfl⟩:=List.getElem_of_mem ho
   have:=(chBad_no (chE_good h i hi)).1
   rw [List.getD_eq_getElem?_getD,List.getElem?_eq_getElem hi] at this
   exact this
 · rcases Nat.eq_zero_or_pos l.length with h0 | h0
   · omega
   · have h1:=chE_ge h (l.length - 1) (by omega)
     have h2:=(chBad_no (chE_good h (l.length - 1) (by omega))).1.2
     omega
set_option maxRecDepth 100000 in
set_option maxHeartbeats 8000000 in
theorem plan_any {K:Nat → Prop} {w:World} {a sa ca:Option Addr} {n c sn sc cn cc:Nat} {s:SkyD} (hL:SkyL K w a n c sa sn sc ca cn cc s) (d:DriftD) (t:Int) {KB:Nat → Prop} {ba:Option Addr} {bn bc:Nat} {set:List BoxD} (hB:Boxes KB w (.slice ba bn bc) set) {KO:Nat → Prop} {oa:Option Addr} {on oc:Nat} {offers:List OffD} (hO:Lst TOff KO w (.slice oa on oc) offers) (hW:watchE s d t set offers = 0):Calls Tryz.prog 47 #[.agg #[.slice a n c,.int .i64 s.home,.slice sa sn sc,.slice ca cn cc],.agg #[.int .i64 (d.l.1),.int .i64 (d.l.2),.int .i64 (d.h.1),.int .i64 (d.h.2),.int .i64 (d.g)],.int .i64 t,.slice ba bn bc,.slice oa on oc] w fun e W=>∃ (PB MB:Nat) (p:Ext),e = .returned (.pointer (some ⟨PB,0,none⟩)) ∧ W = ext w p ∧ PlanT W PB MB oa on oc bn (tabV s d t set offers):=by
 refine (newplan_any hL d t hB hO hW).mono ?_
 rintro e W ⟨p,h1,h2,h3,h4⟩
 exact ⟨_,_,p,h1,h2,planT_of hW h3 h4 (Offs.at hO).1 (Boxes.at hB).1⟩
def worstV (s:SkyD) (d:DriftD) (t:Int) (set:List BoxD) (offers:List OffD) (ch:List Int) (f:Int):Int × Int :=
 if watchE s d t set offers = 0 then
  (if withinB f 0 3 = true then
   (if chE offers.length ch = 0 then (((worstT (tabV s d t set offers) (sureO offers) set.length f.toNat ch:Nat):Int),0) else (0,7))
   else (0,2))
 else (0,watchE s d t set offers)
end Go.Proofs.YteafglginnonnaaGreat
/- Package watch: Worst. Conditions: what lies in memory. -/
namespace Go.Proofs.YteafglginnonnaaGreat
set_option linter.unusedVariables false
set_option linter.unusedSimpArgs false
open Go.RowKit Go.Shelf
set_option maxRecDepth 100000 in
set_option maxHeartbeats 20000000 in
theorem wWorst_any (HD:DelC) {K:Nat → Prop} {w:World} {a sa ca:Option Addr} {n c sn sc cn cc:Nat} {s:SkyD} (hL:SkyL K w a n c sa sn sc ca cn cc s) (d:DriftD) (t:Int) {KB:Nat → Prop} {ba:Option Addr} {bn bc:Nat} {set:List BoxD} (hB:Boxes KB w (.slice ba bn bc) set) {KO:Nat → Prop} {oa:Option Addr} {on oc:Nat} {offers:List OffD} (hO:Lst TOff KO w (.slice oa on oc) offers) {KI:Nat → Prop} {ia:Option Addr} {inn ic:Nat} {ch:List Int} (hI:Lst TInt KI w (.slice ia inn ic) ch) (f:Int):Gives Tryz.prog 13 #[.agg #[.slice a n c,.int .i64 s.home,.slice sa sn sc,.slice ca cn cc],.agg #[.int .i64 (d.l.1),.int .i64 (d.l.2),.int .i64 (d.h.1),.int .i64 (d.h.2),.int .i64 (d.g)],.int .i64 t,.slice ba bn bc,.slice oa on oc,.slice ia inn ic,.int .i64 f] w (.tuple #[.int .i64 (worstV s d t set offers ch f).1,.int .i64 (worstV s d t set offers ch f).2]):=by
 have HC:=hide (fun W (hu:Up w W)=>wwatch_any (hL.up hu) d t (hB.keeps (hu.keeps KB)) (hO.up hu))
 have HI:=hide (fun W=>wwithin_any f 0 3 W)
 have hon:=(Offs.at hO).1
 have hbn:=(Boxes.at hB).1
 have HK:=hide (fun (h:watchE s d t set offers = 0) W (hu:Up w W)=>wchk_any (oa:=oa) (oc:=oc) (on:=on) (by have:=(watchE_zero h).2.2.1;omega) (hI.up hu))
 have HP:=hide (fun (h:watchE s d t set offers = 0) W (hu:Up w W)=>plan_any (hL.up hu) d t (hB.keeps (hu.keeps KB)) (hO.up hu) h)
 have HW:=hide (fun (h:withinB f 0 3 = true) (h':chE on ch = 0) (h'':watchE s d t set offers = 0) (W:World) (hu:Up w W) (PB MB:Nat) (hp:PlanT W PB MB oa on oc bn (tabV s d t set offers)) =>
  show Gives Tryz.prog 48 #[.pointer (some ⟨PB,0,none⟩),.slice ia inn ic,.int .i64 f] W (.int .i64 (worstT (tabV s d t set offers) (sureO offers) bn f.toNat ch)) by
   have hf:0 ≤ f ∧ f ≤ 3:=by simpa [withinB] using h
   obtain ⟨f,rfl⟩:=Int.eq_ofNat_of_zero_le hf.1
   have:=(watchE_zero h'').2.2.1
   have h3:=chE_zero h'
   exact wworst_any HD f (by omega) hp (hO.up hu) (hI.up hu) h3.1 (by omega))
 unfold worstV
 rw [← hbn,← hon]
 have HE:=hide (chE_two on ch)
 generalize worstT (tabV s d t set offers) (sureO offers) bn f.toNat ch = R at *
 generalize tabV s d t set offers = TV at *
 generalize watchE s d t set offers = E at *
 generalize chE on ch = CE at *
 generalize hIn:withinB f 0 3 = IN at *
 generalize s.home = home at *
 clear hL hB hO hI hon hbn hIn
 by_cases h0:E = 0
 rotate_left
 · rw [if_neg h0]
   have heb:(E != 0) = true:=by simpa using h0
   clear h0 HP HK HW
   (unfold Gives;go_enter Tryz.func13,Tryz.ntmps13)
   go_wp2_with fail
   go_at_call 10
   refine forgetK (fun wr=>Up w wr ∧ Box wr w.heap.size #[.slice a n c,.int .i64 home,.slice sa sn sc,.slice ca cn cc] 29 ∧ Box wr (w.heap.size + 1) #[.int .i64 (d.l.1),.int .i64 (d.l.2),.int .i64 (d.h.1),.int .i64 (d.h.2),.int .i64 (d.g)] 33) ⟨(by repeat (first | with_reducible exact Up.refl _ | with_reducible apply Up.plus | apply Up.ext | apply Up.alloc | apply Up.drew | (refine Up.setCell ?_ (by simp;try omega) _))),(by repeat (first | exact Box.mk rfl | (refine Box.mk ?_;simp;done) | apply Box.ext | apply Box.drew | apply Box.alloc | apply Box.two1 | (refine Box.other ?_ (by omega) _ _))),(by repeat (first | exact Box.mk rfl | (refine Box.mk ?_;simp;done) | apply Box.ext | apply Box.drew | apply Box.alloc | apply Box.two1 | (refine Box.other ?_ (by omega) _ _)))⟩ ?_
   rintro V0 ⟨hu,b0,b1⟩
   have HB0:=hide (And.intro hu (And.intro b0 b1))
   clear hu b0 b1
   have s0:=(HB0.out.2.1).cell 0 rfl
   have s1:=(HB0.out.2.1).cell 1 rfl
   have s2:=(HB0.out.2.1).cell 2 rfl
   have s3:=(HB0.out.2.1).cell 3 rfl
   have ls:=(HB0.out.2.1).lt
   have dd0:=(HB0.out.2.2).cell 0 rfl
   have dd1:=(HB0.out.2.2).cell 1 rfl
   have dd2:=(HB0.out.2.2).cell 2 rfl
   have dd3:=(HB0.out.2.2).cell 3 rfl
   have dd4:=(HB0.out.2.2).cell 4 rfl
   have ldd:=(HB0.out.2.2).lt
   refine (HC.out _ (by repeat (first | with_reducible exact HB0.out.1 | with_reducible exact Up.refl _ | with_reducible apply Up.ext | with_reducible apply Up.alloc | with_reducible apply Up.drew | (with_reducible refine Up.setCell ?_ (by simp only;omega) _)))).mono ?_
   intro p1
   go_wp2
   refine bodyPost_give (by repeat (first | with_reducible exact HB0.out.1 | with_reducible exact Up.refl _ | with_reducible apply Up.ext | with_reducible apply Up.alloc | with_reducible apply Up.drew | (with_reducible refine Up.setCell ?_ (by simp only;omega) _))) rfl ⟨_,(by simp [results,Tryz.results13,go_sem];rfl),?_⟩
   rfl
 rw [if_pos h0]
 subst h0
 rcases IN with _ | _
 · rw [if_neg (by decide)]
   clear HP HK HW
   (unfold Gives;go_enter Tryz.func13,Tryz.ntmps13)
   go_wp2_with fail
   go_at_call 10
   refine forgetK (fun wr=>Up w wr ∧ Box wr w.heap.size #[.slice a n c,.int .i64 home,.slice sa sn sc,.slice ca cn cc] 29 ∧ Box wr (w.heap.size + 1) #[.int .i64 (d.l.1),.int .i64 (d.l.2),.int .i64 (d.h.1),.int .i64 (d.h.2),.int .i64 (d.g)] 33) ⟨(by repeat (first | with_reducible exact Up.refl _ | with_reducible apply Up.plus | apply Up.ext | apply Up.alloc | apply Up.drew | (refine Up.setCell ?_ (by simp;try omega) _))),(by repeat (first | exact Box.mk rfl | (refine Box.mk ?_;simp;done) | apply Box.ext | apply Box.drew | apply Box.alloc | apply Box.two1 | (refine Box.other ?_ (by omega) _ _))),(by repeat (first | exact Box.mk rfl | (refine Box.mk ?_;simp;done) | apply Box.ext | apply Box.drew | apply Box.alloc | apply Box.two1 | (refine Box.other ?_ (by omega) _ _)))⟩ ?_
   rintro V0 ⟨hu,b0,b1⟩
   have HB0:=hide (And.intro hu (And.intro b0 b1))
   clear hu b0 b1
   have s0:=(HB0.out.2.1).cell 0 rfl
   have s1:=(HB0.out.2.1).cell 1 rfl
   have s2:=(HB0.out.2.1).cell 2 rfl
   have s3:=(HB0.out.2.1).cell 3 rfl
   have ls:=(HB0.out.2.1).lt
   have dd0:=(HB0.out.2.2).cell 0 rfl
   have dd1:=(HB0.out.2.2).cell 1 rfl
   have dd2:=(HB0.out.2.2).cell 2 rfl
   have dd3:=(HB0.out.2.2).cell 3 rfl
   have dd4:=(HB0.out.2.2).cell 4 rfl
   have ldd:=(HB0.out.2.2).lt
   refine (HC.out _ (by repeat (first | with_reducible exact HB0.out.1 | with_reducible exact Up.refl _ | with_reducible apply Up.ext | with_reducible apply Up.alloc | with_reducible apply Up.drew | (with_reducible refine Up.setCell ?_ (by simp only;omega) _)))).mono ?_
   intro p1
   go_wp2_with (go_at_call 45;refine (HI.out _).mono ?_;intro _)
   refine bodyPost_give (by repeat (first | with_reducible exact HB0.out.1 | with_reducible exact Up.refl _ | with_reducible apply Up.ext | with_reducible apply Up.alloc | with_reducible apply Up.drew | (with_reducible refine Up.setCell ?_ (by simp only;omega) _))) rfl ⟨_,(by simp [results,Tryz.results13,go_sem];rfl),?_⟩
   rfl
 rw [if_pos rfl]
 have HK2:=hide (HK.out rfl)
 clear HK
 by_cases h1:CE = 0
 rotate_left
 · rw [if_neg h1]
   obtain rfl:CE = 7:=by rcases HE.out with h | h;exact absurd h h1;exact h
   clear HP HW h1
   (unfold Gives;go_enter Tryz.func13,Tryz.ntmps13)
   go_wp2_with fail
   go_at_call 10
   refine forgetK (fun wr=>Up w wr ∧ Box wr w.heap.size #[.slice a n c,.int .i64 home,.slice sa sn sc,.slice ca cn cc] 29 ∧ Box wr (w.heap.size + 1) #[.int .i64 (d.l.1),.int .i64 (d.l.2),.int .i64 (d.h.1),.int .i64 (d.h.2),.int .i64 (d.g)] 33) ⟨(by repeat (first | with_reducible exact Up.refl _ | with_reducible apply Up.plus | apply Up.ext | apply Up.alloc | apply Up.drew | (refine Up.setCell ?_ (by simp;try omega) _))),(by repeat (first | exact Box.mk rfl | (refine Box.mk ?_;simp;done) | apply Box.ext | apply Box.drew | apply Box.alloc | apply Box.two1 | (refine Box.other ?_ (by omega) _ _))),(by repeat (first | exact Box.mk rfl | (refine Box.mk ?_;simp;done) | apply Box.ext | apply Box.drew | apply Box.alloc | apply Box.two1 | (refine Box.other ?_ (by omega) _ _)))⟩ ?_
   rintro V0 ⟨hu,b0,b1⟩
   have HB0:=hide (And.intro hu (And.intro b0 b1))
   clear hu b0 b1
   have s0:=(HB0.out.2.1).cell 0 rfl
   have s1:=(HB0.out.2.1).cell 1 rfl
   have s2:=(HB0.out.2.1).cell 2 rfl
   have s3:=(HB0.out.2.1).cell 3 rfl
   have ls:=(HB0.out.2.1).lt
   have dd0:=(HB0.out.2.2).cell 0 rfl
   have dd1:=(HB0.out.2.2).cell 1 rfl
   have dd2:=(HB0.out.2.2).cell 2 rfl
   have dd3:=(HB0.out.2.2).cell 3 rfl
   have dd4:=(HB0.out.2.2).cell 4 rfl
   have ldd:=(HB0.out.2.2).lt
   refine (HC.out _ (by repeat (first | with_reducible exact HB0.out.1 | with_reducible exact Up.refl _ | with_reducible apply Up.ext | with_reducible apply Up.alloc | with_reducible apply Up.drew | (with_reducible refine Up.setCell ?_ (by simp only;omega) _)))).mono ?_
   intro p1
   go_wp2_with (first | (go_at_call 45;refine (HI.out _).mono ?_;intro _) | (go_at_call 46;refine (HK2.out _ (by repeat (first | with_reducible exact HB0.out.1 | with_reducible exact Up.refl _ | with_reducible apply Up.ext | with_reducible apply Up.alloc | with_reducible apply Up.drew | (with_reducible refine Up.setCell ?_ (by simp only;omega) _)))).mono ?_;intro _))
   refine bodyPost_give (by repeat (first | with_reducible exact HB0.out.1 | with_reducible exact Up.refl _ | with_reducible apply Up.ext | with_reducible apply Up.alloc | with_reducible apply Up.drew | (with_reducible refine Up.setCell ?_ (by simp only;omega) _))) rfl ⟨_,(by simp [results,Tryz.results13,go_sem];rfl),?_⟩
   rfl
 rw [if_pos h1]
 subst h1
 have HP2:=hide (HP.out rfl)
 have HW2:=hide (HW.out rfl rfl rfl)
 clear HP HW HE
 (unfold Gives;go_enter Tryz.func13,Tryz.ntmps13)
 go_wp2_with fail
 go_at_call 10
 refine forgetK (fun wr=>Up w wr ∧ Box wr w.heap.size #[.slice a n c,.int .i64 home,.slice sa sn sc,.slice ca cn cc] 29 ∧ Box wr (w.heap.size + 1) #[.int .i64 (d.l.1),.int .i64 (d.l.2),.int .i64 (d.h.1),.int .i64 (d.h.2),.int .i64 (d.g)] 33) ⟨(by repeat (first | with_reducible exact Up.refl _ | with_reducible apply Up.plus | apply Up.ext | apply Up.alloc | apply Up.drew | (refine Up.setCell ?_ (by simp;try omega) _))),(by repeat (first | exact Box.mk rfl | (refine Box.mk ?_;simp;done) | apply Box.ext | apply Box.drew | apply Box.alloc | apply Box.two1 | (refine Box.other ?_ (by omega) _ _))),(by repeat (first | exact Box.mk rfl | (refine Box.mk ?_;simp;done) | apply Box.ext | apply Box.drew | apply Box.alloc | apply Box.two1 | (refine Box.other ?_ (by omega) _ _)))⟩ ?_
 rintro V0 ⟨hu,b0,b1⟩
 have HB0:=hide (And.intro hu (And.intro b0 b1))
 clear hu b0 b1
 have s0:=(HB0.out.2.1).cell 0 rfl
 have s1:=(HB0.out.2.1).cell 1 rfl
 have s2:=(HB0.out.2.1).cell 2 rfl
 have s3:=(HB0.out.2.1).cell 3 rfl
 have ls:=(HB0.out.2.1).lt
 have dd0:=(HB0.out.2.2).cell 0 rfl
 have dd1:=(HB0.out.2.2).cell 1 rfl
 have dd2:=(HB0.out.2.2).cell 2 rfl
 have dd3:=(HB0.out.2.2).cell 3 rfl
 have dd4:=(HB0.out.2.2).cell 4 rfl
 have ldd:=(HB0.out.2.2).lt
 refine (HC.out _ (by repeat (first | with_reducible exact HB0.out.1 | with_reducible exact Up.refl _ | with_reducible apply Up.ext | with_reducible apply Up.alloc | with_reducible apply Up.drew | (with_reducible refine Up.setCell ?_ (by simp only;omega) _)))).mono ?_
 intro p1
 go_wp2_with (first | (go_at_call 45;refine (HI.out _).mono ?_;intro _) | (go_at_call 46;refine (HK2.out _ (by repeat (first | with_reducible exact HB0.out.1 | with_reducible exact Up.refl _ | with_reducible apply Up.ext | with_reducible apply Up.alloc | with_reducible apply Up.drew | (with_reducible refine Up.setCell ?_ (by simp only;omega) _)))).mono ?_;intro _))
 go_at_call 47
 refine (HP2.out _ (by repeat (first | with_reducible exact HB0.out.1 | with_reducible exact Up.refl _ | with_reducible apply Up.ext | with_reducible apply Up.alloc | with_reducible apply Up.drew | (with_reducible refine Up.setCell ?_ (by simp only;omega) _)))).mono ?_
 rintro _ _ ⟨PB,MB,q,rfl,rfl,hp⟩
 rw [ext_ext] at hp
 have HW3:=hide (HW2.out _ (by repeat (first | with_reducible exact HB0.out.1 | with_reducible exact Up.refl _ | with_reducible apply Up.ext | with_reducible apply Up.alloc | with_reducible apply Up.drew | (with_reducible refine Up.setCell ?_ (by simp only;omega) _))) PB MB hp)
 clear hp
 go_wp2_with (go_at_call 48;refine (HW3.out).mono ?_;intro _)
 refine bodyPost_give (by repeat (first | with_reducible exact HB0.out.1 | with_reducible exact Up.refl _ | with_reducible apply Up.ext | with_reducible apply Up.alloc | with_reducible apply Up.drew | (with_reducible refine Up.setCell ?_ (by simp only;omega) _))) rfl ⟨_,(by simp [results,Tryz.results13,go_sem];rfl),?_⟩
 rfl
end Go.Proofs.YteafglginnonnaaGreat
/- The helpers of the statements of layer 6: a place near another one, an area around it. Conditions: bounded numbers. -/
namespace Go.Proofs.YteafglginnonnaaGreat
set_option linter.unusedVariables false
set_option linter.unusedSimpArgs false
open Go.RowKit
theorem xarea6_any (a b c d:Int) (w:World):Gives Tryz.prog 20 #[.int .i64 a,.int .i64 b,.int .i64 c,.int .i64 d] w (.agg #[.int .i64 (a),.int .i64 (b),.int .i64 (c),.int .i64 (d)]):=by
 (unfold Gives;go_enter Tryz.func20,Tryz.ntmps20)
 go_wp2
 all_goals (refine bodyPost_give (by repeat (first | with_reducible exact Up.refl _ | with_reducible apply Up.plus | apply Up.ext | apply Up.alloc | apply Up.drew | (refine Up.setCell ?_ (by simp;try omega) _))) rfl ⟨_,(by simp [results,Tryz.results20,go_sem];rfl),?_⟩)
 all_goals rfl
end Go.Proofs.YteafglginnonnaaGreat
/- The sky, the offers of the chapter's examples, and the examples that each law of layer 6 asks. No conditions. -/
namespace Go.Proofs.YteafglginnonnaaGreat
set_option linter.unusedVariables false
set_option linter.unusedSimpArgs false
open Go.RowKit Go.Shelf
def shownS:SkyD:=⟨[⟨0,0,[(0,0)]⟩],0,[(1,0,0)],[(1,0,0)]⟩
def radarO:OffD:=⟨2,1,0,0,0,0,2,100,0,3,true⟩
def scopeO:OffD:=⟨1,1,1,0,1,0,1000,1000,500000,1,false⟩
theorem Vecs.ofB {K:Nat → Prop} {w:World} {B n:Nat} {T:TypeId} {C:Array Value} {l:List (Int × Int)} (hb:Box w B C T) (hK:K B) (hn:n = l.length) (hm:l.length ≤ 1000000)
 (hC:∀ (i:Nat) (p:Int × Int),l[i]? = some p → C[i * 2]? = some (.int .i64 p.1) ∧ C[i * 2 + 1]? = some (.int .i64 p.2) ∧ I64 p.1 ∧ I64 p.2) (c:Nat):Vecs K w (.slice (some ⟨B,0,none⟩) n c) l:=by
 subst hn
 refine ⟨_,_,rfl,by omega,fun _=>⟨B,0,rfl,hK,hb.lt,fun i x hx=>?_⟩⟩
 obtain ⟨h0,h1,h2,h3⟩:=hC i x hx
 refine ⟨_,⟨rfl,h2,h3⟩,rfl,fun j u hu=>?_⟩
 match j,hu with
 | 0,hu=>cases hu;exact hb.cell _ (by simpa using h0)
 | 1,hu=>cases hu;exact hb.cell _ (by simpa using h1)
theorem Tris.ofB {K:Nat → Prop} {w:World} {B n:Nat} {T:TypeId} {C:Array Value} {l:List (Int × Int × Int)} (hb:Box w B C T) (hK:K B) (hn:n = l.length) (hm:l.length ≤ 1000000)
 (hC:∀ (i:Nat) (p:Int × Int × Int),l[i]? = some p → C[i * 3]? = some (.int .i64 p.1) ∧ C[i * 3 + 1]? = some (.int .i64 p.2.1) ∧ C[i * 3 + 2]? = some (.int .i64 p.2.2) ∧ I64 p.1 ∧ I64 p.2.1 ∧ I64 p.2.2) (c:Nat):Tris K w (.slice (some ⟨B,0,none⟩) n c) l:=by
 subst hn
 refine ⟨_,_,rfl,by omega,fun _=>⟨B,0,rfl,hK,hb.lt,fun i x hx=>?_⟩⟩
 obtain ⟨h0,h1,h2,h3⟩:=hC i x hx
 refine ⟨_,⟨rfl,h3⟩,rfl,fun j u hu=>?_⟩
 match j,hu with
 | 0,hu=>cases hu;exact hb.cell _ (by simpa using h0)
 | 1,hu=>cases hu;exact hb.cell _ (by simpa using h1)
 | 2,hu=>cases hu;exact hb.cell _ (by simpa using h2)
theorem Bods.ofB {K:Nat → Prop} {w:World} {B n:Nat} {T:TypeId} {C:Array Value} {l:List Bod} (hb:Box w B C T) (hK:K B) (hn:n = l.length) (hm:l.length ≤ 1000000)
 (hC:∀ (i:Nat) (p:Bod),l[i]? = some p → ∃ tv,C[i * 3]? = some (.int .i64 p.mu) ∧ C[i * 3 + 1]? = some (.int .i64 p.radius) ∧ C[i * 3 + 2]? = some tv ∧ I64 p.mu ∧ I64 p.radius ∧ Vecs K w tv p.track) (c:Nat):Bods K w (.slice (some ⟨B,0,none⟩) n c) l:=by
 subst hn
 refine ⟨_,_,rfl,by omega,fun _=>⟨B,0,rfl,hK,hb.lt,fun i x hx=>?_⟩⟩
 obtain ⟨tv,h0,h1,h2,h3,h4,h5⟩:=hC i x hx
 refine ⟨_,⟨tv,rfl,h3,h4,h5⟩,rfl,fun j u hu=>?_⟩
 match j,hu with
 | 0,hu=>cases hu;exact hb.cell _ (by simpa using h0)
 | 1,hu=>cases hu;exact hb.cell _ (by simpa using h1)
 | 2,hu=>cases hu;exact hb.cell _ (by simpa using h2)
theorem shown6_any (w:World):Calls Tryz.prog 15 #[] w fun e W=>∃ (a:Option Addr) (n c:Nat) (sa:Option Addr) (sn sc:Nat) (ca:Option Addr) (cn cc:Nat) (p:Ext),
 e = .returned (.agg #[.slice a n c,.int .i64 0,.slice sa sn sc,.slice ca cn cc]) ∧ SkyL (fun b=>w.heap.size ≤ b) W a n c sa sn sc ca cn cc shownS ∧ W = ext w p:=by
 go_enter Tryz.func15,Tryz.ntmps15
 go_wp2
 refine forgetW (fun W=>Up w W ∧ Box W w.heap.size #[.slice (some ⟨w.heap.size + 1 + 1,0,none⟩) 1 1,.int .i64 0,.slice (some ⟨w.heap.size + 1 + 1 + 1,0,none⟩) 1 1,.slice (some ⟨w.heap.size + 1 + 1 + 1 + 1,0,none⟩) 1 1] 29 ∧ Box W (w.heap.size + 1) #[.int .i64 (0),.int .i64 (0)] 48 ∧
  Box W (w.heap.size + 1 + 1) #[.int .i64 0,.int .i64 0,.slice (some ⟨w.heap.size + 1,0,none⟩) 1 1] 110 ∧ Box W (w.heap.size + 1 + 1 + 1) #[.int .i64 (1),.int .i64 (0),.int .i64 (0)] 112 ∧ Box W (w.heap.size + 1 + 1 + 1 + 1) #[.int .i64 (1),.int .i64 (0),.int .i64 (0)] 114) ⟨(by repeat (first | with_reducible exact Up.refl _ | with_reducible apply Up.plus | apply Up.ext | apply Up.alloc | apply Up.drew | (refine Up.setCell ?_ (by simp;try omega) _))),(by repeat (first | exact Box.mk rfl | (refine Box.mk ?_;simp;done) | apply Box.ext | apply Box.drew | apply Box.alloc | apply Box.two1 | (refine Box.other ?_ (by omega) _ _))),(by repeat (first | exact Box.mk rfl | (refine Box.mk ?_;simp;done) | apply Box.ext | apply Box.drew | apply Box.alloc | apply Box.two1 | (refine Box.other ?_ (by omega) _ _))),(by repeat (first | exact Box.mk rfl | (refine Box.mk ?_;simp;done) | apply Box.ext | apply Box.drew | apply Box.alloc | apply Box.two1 | (refine Box.other ?_ (by omega) _ _))),(by repeat (first | exact Box.mk rfl | (refine Box.mk ?_;simp;done) | apply Box.ext | apply Box.drew | apply Box.alloc | apply Box.two1 | (refine Box.other ?_ (by omega) _ _))),(by repeat (first | exact Box.mk rfl | (refine Box.mk ?_;simp;done) | apply Box.ext | apply Box.drew | apply Box.alloc | apply Box.two1 | (refine Box.other ?_ (by omega) _ _)))⟩ ?_
 rintro W ⟨⟨p,hp⟩,b0,b1,b2,b3,b4⟩
 have c0:=b0.cell 0 rfl
 have c1:=b0.cell 1 rfl
 have c2:=b0.cell 2 rfl
 have c3:=b0.cell 3 rfl
 refine bodyPost_ret (v:=.agg #[.slice (some ⟨w.heap.size + 1 + 1,0,none⟩) 1 1,.int .i64 0,.slice (some ⟨w.heap.size + 1 + 1 + 1,0,none⟩) 1 1,.slice (some ⟨w.heap.size + 1 + 1 + 1 + 1,0,none⟩) 1 1]) (by simp [results,Tryz.results15,go_sem,c0,c1,c2,c3]) rfl ⟨_,_,_,_,_,_,_,_,_,p,rfl,?_,hp⟩
 have i0:I64 0:=⟨by decide,by decide⟩
 have i1:I64 1:=⟨by decide,by decide⟩
 have v1:Vecs (fun b=>w.heap.size ≤ b) W (.slice (some ⟨w.heap.size + 1,0,none⟩) 1 1) [(0,0)]:=Vecs.ofB (K:=fun b=>w.heap.size ≤ b) (l:=[(0,0)]) b1 (by show _ ≤ _;omega) rfl (by decide) (fun i q hq=>by
  match i,hq with
  | 0,hq=>cases hq;exact ⟨rfl,rfl,i0,i0⟩) 1
 exact ⟨Bods.ofB (K:=fun b=>w.heap.size ≤ b) (l:=[⟨0,0,[(0,0)]⟩]) b2 (by show _ ≤ _;omega) rfl (by decide) (fun i q hq=>by
  match i,hq with
  | 0,hq=>cases hq;exact ⟨_,rfl,rfl,rfl,i0,i0,v1⟩) 1,i0,
  Tris.ofB (K:=fun b=>w.heap.size ≤ b) (l:=[(1,0,0)]) b3 (by show _ ≤ _;omega) rfl (by decide) (fun i q hq=>by
   match i,hq with
   | 0,hq=>cases hq;exact ⟨rfl,rfl,rfl,i1,i0,i0⟩) 1,
  Tris.ofB (K:=fun b=>w.heap.size ≤ b) (l:=[(1,0,0)]) b4 (by show _ ≤ _;omega) rfl (by decide) (fun i q hq=>by
   match i,hq with
   | 0,hq=>cases hq;exact ⟨rfl,rfl,rfl,i1,i0,i0⟩) 1⟩
theorem radar6_any (w:World):Gives Tryz.prog 16 #[] w (.agg (offA radarO)):=by
 (unfold Gives;go_enter Tryz.func16,Tryz.ntmps16)
 go_wp2
 all_goals (refine bodyPost_give (by repeat (first | with_reducible exact Up.refl _ | with_reducible apply Up.plus | apply Up.ext | apply Up.alloc | apply Up.drew | (refine Up.setCell ?_ (by simp;try omega) _))) rfl ⟨_,(by simp [results,Tryz.results16,go_sem];rfl),?_⟩)
 all_goals rfl
theorem scope6_any (w:World):Gives Tryz.prog 17 #[] w (.agg (offA scopeO)):=by
 (unfold Gives;go_enter Tryz.func17,Tryz.ntmps17)
 go_wp2
 all_goals (refine bodyPost_give (by repeat (first | with_reducible exact Up.refl _ | with_reducible apply Up.plus | apply Up.ext | apply Up.alloc | apply Up.drew | (refine Up.setCell ?_ (by simp;try omega) _))) rfl ⟨_,(by simp [results,Tryz.results17,go_sem];rfl),?_⟩)
 all_goals rfl
theorem awake6_view:viewV shownS scopeO (100,200,10,20) = ((true,true,49000,201000),0):=by decide +kernel
theorem awake6_reads:readsV shownS radarO (60,80) = ((98,102),true):=by decide +kernel
set_option maxRecDepth 100000 in
set_option maxHeartbeats 2000000 in
theorem awake6_any (w:World):Gives Tryz.prog 11 #[] w (.bool true):=by
 have H1:∀ (K:Nat → Prop) (W0 W:World) (a:Option Addr) (n c:Nat) (sa:Option Addr) (sn sc:Nat) (ca:Option Addr) (cn cc:Nat),SkyL K W0 a n c sa sn sc ca cn cc shownS → Up W0 W →
  Gives Tryz.prog 21 #[.agg #[.slice a n c,.int .i64 0,.slice sa sn sc,.slice ca cn cc],.agg (offA scopeO),.agg #[.int .i64 (100),.int .i64 (200),.int .i64 (10),.int .i64 (20)]] W (.tuple #[.agg #[.bool true,.bool true,.int .i64 49000,.int .i64 201000],.int .i64 0]):=fun K W0 W a n c sa sn sc ca cn cc h hu=>by
  have:=wView_any (h.up hu) scopeO (100,200,10,20)
  rw [awake6_view] at this
  exact this
 have H2:∀ (K:Nat → Prop) (W0 W:World) (a:Option Addr) (n c:Nat) (sa:Option Addr) (sn sc:Nat) (ca:Option Addr) (cn cc:Nat),SkyL K W0 a n c sa sn sc ca cn cc shownS → Up W0 W →
  Gives Tryz.prog 19 #[.agg #[.slice a n c,.int .i64 0,.slice sa sn sc,.slice ca cn cc],.agg (offA radarO),.agg #[.int .i64 (60),.int .i64 (80)]] W (.tuple #[.agg #[.int .i64 (98),.int .i64 (102)],.bool true]):=fun K W0 W a n c sa sn sc ca cn cc h hu=>by
  have:=wReads_any (h.up hu) radarO (60,80)
  rw [awake6_reads] at this
  exact this
 have K1:=hide H1
 have K2:=hide H2
 clear H1 H2
 (unfold Gives;go_enter Tryz.func11,Tryz.ntmps11)
 go_wp2_with (first | (go_at_call 15;refine (shown6_any _).mono ?_;rintro _ _ ⟨a,n,c,sa,sn,sc,ca,cn,cc,px,rfl,hb,rfl⟩) | (go_at_call 17;refine (scope6_any _).mono ?_;intro _) | (go_at_call 16;refine (radar6_any _).mono ?_;intro _) | (go_at_call 20;refine (xarea6_any _ _ _ _ _).mono ?_;intro _) | (go_at_call 21;refine (K1.out _ _ _ _ _ _ _ _ _ _ _ _ (by assumption) (by repeat (first | with_reducible exact Up.refl _ | with_reducible apply Up.plus | apply Up.ext | apply Up.alloc | apply Up.drew | (refine Up.setCell ?_ (by simp;try omega) _)))).mono ?_;intro _) | (go_at_call 19;refine (K2.out _ _ _ _ _ _ _ _ _ _ _ _ (by assumption) (by repeat (first | with_reducible exact Up.refl _ | with_reducible apply Up.plus | apply Up.ext | apply Up.alloc | apply Up.drew | (refine Up.setCell ?_ (by simp;try omega) _)))).mono ?_;intro _))
 go_ret
 exact ⟨rfl,(by repeat (first | with_reducible exact Up.refl _ | with_reducible apply Up.plus | apply Up.ext | apply Up.alloc | apply Up.drew | (refine Up.setCell ?_ (by simp;try omega) _)))⟩
end Go.Proofs.YteafglginnonnaaGreat
