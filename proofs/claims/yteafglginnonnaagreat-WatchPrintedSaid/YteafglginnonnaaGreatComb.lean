/- Several texts in one. -/
import Derived.Test.YteafglginnonnaaGreatBox
import Derived.OwnWalkIn
import Derived.TacticsInMore
import Derived.LoopNIn
import Derived.LoopIn
import Derived.Shelf.Abstract
import Derived.Test.YteafglginnonnaaGreatSkyP
/- The four pairs of ends of two spans: what pairs hands back, and what ranging over it gives. No conditions. -/
set_option linter.unusedVariables false
set_option linter.unusedSimpArgs false
namespace Go.Proofs.YteafglginnonnaaGreat
open Go.RowKit Go.Shelf
attribute [local go_sem] Oper.semAt_some
theorem pairs_any (a b c d:Int) (w:World):Calls Tryz.prog 270 #[.agg #[.int .i64 a,.int .i64 b],.agg #[.int .i64 c,.int .i64 d]] w
 fun e w'=>e=.returned (.func (.func 272) #[] #[.pointer (some ⟨w.heap.size+1+1,0,none⟩)]) ∧
  w'=((w.alloc (.cells #[.int .i64 a,.int .i64 b] 31)).alloc (.cells #[.int .i64 c,.int .i64 d] 31)).alloc (.cells #[.int .i64 a,.int .i64 b,.int .i64 c,.int .i64 d] 313):=by
 go_enter Tryz.func270,Tryz.ntmps270
 go_wp2
 go_ret
 exact ⟨rfl,rfl⟩
def KeepsBlock (B:Nat) (W W':World):Prop:=W'.heap[B]?=W.heap[B]?
theorem KeepsBlock.trans {B:Nat} {X Y Z:World} (h:KeepsBlock B X Y) (k:KeepsBlock B Y Z):KeepsBlock B X Z:=Eq.trans k h
theorem KeepsBlock.cell {B:Nat} {W W':World} (h:KeepsBlock B W W') (o:Nat):W'.cell? ⟨B,o,none⟩=W.cell? ⟨B,o,none⟩:=World.cell?_of_block (a:=⟨B,o,none⟩) h
def four (a b c d:Int):List (Int×Int):=[(a,c),(a,d),(b,c),(b,d)]
def at2 (a b:Int) (k:Nat):Int:=if k=0 then a else b
theorem four_step (a b c d:Int) (k j:Nat) (hk:k<2) (hj:j<2):(four a b c d).take (2*k+j)++[(at2 a b k,at2 c d j)]=(four a b c d).take (2*k+(j+1)):=by
 have h1:k=0∨k=1:=by omega
 have h2:j=0∨j=1:=by omega
 rcases h1 with rfl | rfl <;> rcases h2 with rfl | rfl <;> rfl
theorem four_next (a b c d:Int) (k j:Nat) (hk:k<2) (hj:j<2):(four a b c d).take (2*k+j)++[(at2 a b k,at2 c d j)] <+: four a b c d:=by
 rw [four_step a b c d k j hk hj];exact List.take_prefix _ _
theorem index2 (a b:Int) (k:Nat) (hk:k<2) (w:World):(Instr.index 290 (.agg #[.int .i64 a,.int .i64 b]) (.int .i64 (k:Int))).run Tryz.prog w=.ok (.int .i64 (at2 a b k)) w:=by
 have h1:k=0∨k=1:=by omega
 have i0:∀ w,(Instr.index 290 (.agg #[.int .i64 a,.int .i64 b]) (.int .i64 0)).run Tryz.prog w=.ok (.int .i64 a) w:=fun _=>by kernel_rfl
 have i1:∀ w,(Instr.index 290 (.agg #[.int .i64 a,.int .i64 b]) (.int .i64 1)).run Tryz.prog w=.ok (.int .i64 b) w:=fun _=>by kernel_rfl
 rcases h1 with rfl | rfl
 · exact i0 w
 · exact i1 w
set_option maxRecDepth 100000 in
set_option maxHeartbeats 2000000 in
theorem pairs1_seq (Be:Nat) (a b c d:Int) (w:World) (hB:Be<w.heap.size) (h0:w.cell? ⟨Be,0,none⟩=some (.int .i64 a)) (h1:w.cell? ⟨Be,1,none⟩=some (.int .i64 b)) (h2:w.cell? ⟨Be,2,none⟩=some (.int .i64 c)) (h3:w.cell? ⟨Be,3,none⟩=some (.int .i64 d)) :
 SeqN Fence.wide Tryz.prog 272 #[.pointer (some ⟨Be,0,none⟩)] (fun x:Int×Int=>#[.int .i64 x.1,.int .i64 x.2]) (KeepsBlock Be) (four a b c d) w:=by
 intro m l J Jx W hl hW hJ hJx hY hJ0
 have hk0:KeepsBlock Be w W:=hW.block Be hB
 have cells:∀ W',KeepsBlock Be w W'→W'.cell? ⟨Be,0,none⟩=some (.int .i64 a)∧W'.cell? ⟨Be,1,none⟩=some (.int .i64 b)∧W'.cell? ⟨Be,2,none⟩=some (.int .i64 c)∧W'.cell? ⟨Be,3,none⟩=some (.int .i64 d):=fun W' h =>
  ⟨(h.cell 0).trans h0,(h.cell 1).trans h1,(h.cell 2).trans h2,(h.cell 3).trans h3⟩
 obtain ⟨g0,g1,g2,g3⟩:=cells W hk0
 have CE:=hide cells
 clear cells
 (refine callsIn_of_wp Tryz.func272 rfl trivial ?_ rfl;simp only [Tryz.ntmps272,List.size_toArray,List.length_cons,List.length_nil,Nat.reduceAdd,Nat.reduceSub,Array.replicate_succ,Array.replicate_zero,List.push_toArray,List.append_toArray,List.nil_append,List.cons_append])
 gi_wp2
 gi_loopw [9] (fun i wr=>∃ k:Nat,k≤2∧i=.int .i64 k∧J ((four a b c d).take (2*k)) wr∧KeepsBlock Be w wr) (fun i _=>2 - (intOf i).toNat)
 case atStart=>exact ⟨0,by omega,rfl,hJ0,hk0⟩
 case round =>
  obtain ⟨k,hk,rfl,hJk,hK⟩:=hrel
  obtain ⟨f0,f1,f2,f3⟩:=CE.out wr hK
  by_cases hlt:k<2
  · have ix:=index2 a b k hlt
    have hkb:decide ((k:Int)<2)=true:=by simp;omega
    gi_wp2
    obtain ⟨wo,hwo⟩:∃ wo:World,wo=wr:=⟨_,rfl⟩
    gi_loopw [14] (fun i wr=>∃ j:Nat,j≤2∧i=.int .i64 j∧J ((four a b c d).take (2*k+j)) wr∧KeepsBlock Be w wr) (fun i _=>2 - (intOf i).toNat)
    case atStart=>exact ⟨0,by omega,rfl,hJk,hK⟩
    case round =>
     obtain ⟨j,hj,rfl,hJj,hKj⟩:=hrel
     by_cases hlj:j<2
     · have iy:=index2 c d j hlj
       have hjb:decide ((j:Int)<2)=true:=by simp;omega
       obtain ⟨fn,tmps,assign,body,hy,hR⟩:=hY (m - 1) _ (at2 a b k,at2 c d j) wr hJj (four_next a b c d k j hlt hlj)
       dsimp only at hy
       gi_wp2
       refine ⟨fun h=>(by cases h),hR.mono ?_⟩
       rintro e W3 (⟨rfl,hJ3,_,hk3⟩ | ⟨rfl,hJx3,_⟩)
       · gi_wp2
         go_roundw
         case rel=>exact ⟨j+1,by omega,by go_num,by rw [← four_step a b c d k j hlt hlj];exact hJ3,KeepsBlock.trans hKj hk3⟩
         case measure=>simp [intOf];omega
       · gi_wp2
         refine bodyPost_ret (results_none rfl _ _ _) rfl ?_
         rw [four_step a b c d k j hlt hlj] at hJx3
         exact ⟨⟨_,rfl⟩,.inr ⟨_,List.take_prefix _ _,hJx3⟩⟩
     · obtain rfl:j=2:=by omega
       gi_wp2
       go_roundw
       case rel=>exact ⟨k+1,by omega,by go_num,by rw [show 2*(k+1)=2*k+2 by omega];exact hJj,hKj⟩
       case measure=>simp [intOf];omega
  · obtain rfl:k=2:=by omega
    gi_wp2
    go_end0
    exact ⟨⟨_,rfl⟩,.inl hJk⟩
end Go.Proofs.YteafglginnonnaaGreat
/- combine: the span of an operation over the ends of two spans. -/
namespace Go.Proofs.YteafglginnonnaaGreat
open Go.RowKit Go.Shelf
attribute [local go_sem] Oper.semAt_some
abbrev OpE:=Int→Int→Int×Int×Int
def acc (op:OpE) (l:List (Int×Int)):Int×Int:=l.foldl (fun s x=>(min s.1 (op x.1 x.2).1,max s.2 (op x.1 x.2).2.1)) (1152921504606846976,-1152921504606846976)
theorem acc_snoc (op:OpE) (l:List (Int×Int)) (x:Int×Int):acc op (l++[x])=(min (acc op l).1 (op x.1 x.2).1,max (acc op l).2 (op x.1 x.2).2.1):=by simp [acc]
def err (op:OpE) (l:List (Int×Int)):Int:=match l with
 | []=>0
 | x::l=>if (op x.1 x.2).2.2=0 then err op l else (op x.1 x.2).2.2
theorem err_zero (op:OpE) (l:List (Int×Int)) (x:Int×Int) (h:err op l=0):err op (l++[x])=(op x.1 x.2).2.2:=by
 induction l with
 | nil=>simp only [List.nil_append,err];split <;> simp_all
 | cons y l ih=>simp only [List.cons_append,err] at h ⊢;split <;> simp_all
theorem err_pre (op:OpE) (l m:List (Int×Int)) (h:err op l≠0):err op (l++m)=err op l:=by
 induction l with
 | nil=>simp [err] at h
 | cons y l ih=>simp only [List.cons_append,err] at h ⊢;split <;> simp_all
def combE (op:OpE) (a b c d:Int):Int×Int×Int :=
 if validE a b c d=0 then (if err op (four a b c d)=0 then ((acc op (four a b c d)).1,(acc op (four a b c d)).2,0) else (0,0,err op (four a b c d))) else (0,0,validE a b c d)
set_option maxRecDepth 100000 in
set_option maxHeartbeats 4000000 in
theorem combine_in (g:Nat) (op:OpE) (eg:∀ args w,(callFunc g args).run Tryz.prog w=.ok (.enter g args) w) (a b c d:Int)
 (hop:validE a b c d=0→∀ x∈four a b c d,∀ W,Gives Tryz.prog g #[.int .i64 x.1,.int .i64 x.2] W (.tuple #[.int .i64 (op x.1 x.2).1,.int .i64 (op x.1 x.2).2.1,.int .i64 (op x.1 x.2).2.2])) (w:World) :
 CallsIn Fence.wide 0 Tryz.prog 263 #[.agg #[.int .i64 a,.int .i64 b],.agg #[.int .i64 c,.int .i64 d],.func (.func g) #[] #[]] w
  fun e w'=>e=.returned (.tuple #[.agg #[.int .i64 (combE op a b c d).1,.int .i64 (combE op a b c d).2.1],.int .i64 (combE op a b c d).2.2])∧Below w.heap.size w w':=by
 by_cases hv:validE a b c d=0
 · have HOP:=hide (hop hv)
   clear hop
   have hvb:(validE a b c d != 0)=false:=by simp [hv]
   (refine callsIn_of_wp_marks Tryz.func263 rfl trivial ?_ rfl;simp only [Tryz.ntmps263,List.size_toArray,List.length_cons,List.length_nil,Nat.reduceAdd,Nat.reduceSub,Array.replicate_succ,Array.replicate_zero,List.push_toArray,List.append_toArray,List.nil_append,List.cons_append])
   gi_wp2_with (first | (refine ⟨trivial,rfl,?_⟩;gi_at_call 140;refine (callsIn_wide.2 (valid_any _ _ _ _ _)).mono ?_;rintro _ _ ⟨rfl,px,rfl⟩) | (refine ⟨trivial,rfl,?_⟩;gi_at_call 270;refine (callsIn_wide.2 (pairs_any _ _ _ _ _)).mono ?_;rintro _ _ ⟨rfl,rfl⟩))
   -- the boxes: the operation,the two results,what is gathered,the ends
   obtain ⟨O,hO⟩:∃ O,w.heap.size+1+1+1+1+1+px.os.size=O:=⟨_,rfl⟩
   obtain ⟨wl,hwl⟩:∃ wl,((((ext (((((w.alloc (.cells #[.int .i64 a,.int .i64 b] 31)).alloc (.cells #[.int .i64 c,.int .i64 d] 31)).alloc (.cells #[.func (.func g) #[] #[]] 309)).alloc (.cells #[.int .i64 0,.int .i64 0] 31)).alloc (.cells #[.int .i64 0] 42)) px).alloc (.cells #[.int .i64 1152921504606846976,.int .i64 (-1152921504606846976)] 31)).alloc (.cells #[.int .i64 a,.int .i64 b] 31)).alloc (.cells #[.int .i64 c,.int .i64 d] 31)).alloc (.cells #[.int .i64 a,.int .i64 b,.int .i64 c,.int .i64 d] 313)=wl:=⟨_,rfl⟩
   have x2:Box wl (w.heap.size+1+1) #[.func (.func g) #[] #[]] 309:=by rw [← hwl];exact ((((((((Box.mk (by simp)).alloc _).alloc _).ext _).alloc _).alloc _).alloc _).alloc _)
   have x3:Box wl (w.heap.size+1+1+1) #[.int .i64 0,.int .i64 0] 31:=by rw [← hwl];exact (((((((Box.mk (by simp)).alloc _).ext _).alloc _).alloc _).alloc _).alloc _)
   have x4:Box wl (w.heap.size+1+1+1+1) #[.int .i64 0] 42:=by rw [← hwl];exact ((((((Box.mk (by simp)).ext _).alloc _).alloc _).alloc _).alloc _)
   have xO:Box wl O #[.int .i64 1152921504606846976,.int .i64 (-1152921504606846976)] 31:=by rw [← hwl,← hO];exact ((((Box.mk (by simp)).alloc _).alloc _).alloc _)
   have xE:Box wl (O+1+1+1) #[.int .i64 a,.int .i64 b,.int .i64 c,.int .i64 d] 313:=by rw [← hwl,← hO];exact Box.mk (by simp)
   have hsz:wl.heap.size=O+1+1+1+1:=by rw [← hwl,← hO];simp
   have hB:Below w.heap.size w wl:=by
    rw [← hwl]
    exact Up.below (by repeat (first|with_reducible exact Up.refl _|apply Up.ext|apply Up.alloc))
   rw [hwl,hO]
   have hOl:w.heap.size+1+1+1+1+1≤O:=by omega
   clear hO hwl
   refine range_outer rfl (fun _=>trivial) rfl (gf:=272) (lb:=#[.pointer (some ⟨O+1+1+1,0,none⟩)]) rfl (enters_of Tryz.func272 (by kernel_rfl) rfl)
    (pairs1_seq (O+1+1+1) a b c d wl (by omega) (xE.cell 0 rfl) (xE.cell 1 rfl) (xE.cell 2 rfl) (xE.cell 3 rfl)) (fun h k=>h.trans k)
    (fun W L o o' hL _ _=>World.putObj_heap_other (by omega)) (Below.refl _ _) (fun _=>rfl) (Nat.zero_le _)
    (fun pre W=>err op pre=0∧wl.grownBy W (some O)∧Box W O #[.int .i64 (acc op pre).1,.int .i64 (acc op pre).2] 31)
    (fun c' pre W=>c'=.ret∧err op pre≠0∧Below w.heap.size w W∧Box W (w.heap.size+1+1+1) #[.int .i64 0,.int .i64 0] 31∧Box W (w.heap.size+1+1+1+1) #[.int .i64 (err op pre)] 42)
    ?hI ?hIx ⟨rfl,grown_refl _ _,xO⟩
    (fun _=>[])
    (fun x _=>{ tmps:=#[.agg #[.int .i64 a,.int .i64 b],.agg #[.int .i64 c,.int .i64 d],.func (.func g) #[] #[],.pointer (some ⟨w.heap.size,0,none⟩),.pointer (some ⟨w.heap.size+1,0,none⟩),.pointer (some ⟨w.heap.size+1+1,0,none⟩),.pointer (some ⟨w.heap.size+1+1+1,0,none⟩),.pointer (some ⟨w.heap.size+1+1+1+1,0,none⟩),.int .i64 0,.pointer (some ⟨O,0,none⟩),.int .i64 x.1,.int .i64 x.2,undef,undef,undef,.agg #[.int .i64 a,.int .i64 b],.agg #[.int .i64 c,.int .i64 d],.int .i64 0,.int .i64 0,.bool false,undef,undef,.agg #[.int .i64 1152921504606846976,.int .i64 (-1152921504606846976)],.agg #[.int .i64 a,.int .i64 b],.agg #[.int .i64 c,.int .i64 d],.func (.func 272) #[] #[.pointer (some ⟨O+1+1+1,0,none⟩)],.int .i64 x.1,.int .i64 x.2,undef,undef,undef,undef,undef,undef,undef,undef,undef,undef,undef,undef,undef,undef,undef,undef,undef,undef,undef,undef,undef,undef],defers:=[] }) ?assign ?body ?done ?stop
   case assign =>
    intro L x W K hK
    gi_wp2
    exact hK
   case hI =>
    rintro pre W W' row ⟨h1,h2,h3⟩ hg hr
    exact ⟨h1,grown_turn h2 hg (fun r e=>(hr r e).1),h3.grown hg (fun e=>by have:=(hr O e).1;omega)⟩
   case hIx =>
    rintro c' pre W W' row ⟨h1,h2,h3,h4,h5⟩ hg hr
    exact ⟨h1,h2,h3.grown hg h3.size (fun k e=>by have:=(hr k e).1;omega),h4.grown hg (fun e=>by have:=(hr _ e).1;omega),h5.grown hg (fun e=>by have:=(hr _ e).1;omega)⟩
   case body =>
    rintro L pre x W hL _ ⟨h1,h2,h3⟩ hnx
    have hw0:=h2.size
    have b2:=x2.grown h2 (by simp;omega)
    have b3:=x3.grown h2 (by simp;omega)
    have b4:=x4.grown h2 (by simp;omega)
    have c2:=b2.cell 0 rfl
    obtain ⟨c30,c31⟩:=b3.c2
    have c4:=b4.cell 0 rfl
    obtain ⟨cO0,cO1⟩:=h3.c2
    obtain ⟨f30,f31⟩:=b3.f2
    have f4:=b4.frozen 0
    obtain ⟨fO0,fO1⟩:=h3.f2
    have w2:w.heap.size+1+1<W.heap.size:=by omega
    have w3:w.heap.size+1+1+1<W.heap.size:=by omega
    have w4:w.heap.size+1+1+1+1<W.heap.size:=by omega
    have wO:O<W.heap.size:=by omega
    have HG:=hide h2
    have HB:=hide h3
    have HE:=hide h1
    have HX:=hide (And.intro x2 (And.intro x3 (And.intro x4 (And.intro b3 b4))))
    clear h1 h2 h3 x2 x3 x4 xO xE b2 b3 b4
    have hmem:x∈four a b c d:=hnx.subset (by simp)
    clear hnx
    dsimp only [news,List.foldl]
    gi_wp2_with fail
    refine ⟨trivial,rfl,?_⟩
    refine (CallsIn.inRound L (callsIn_wide.2 (HOP.out x hmem _))).mono ?_
    rintro _ _ ⟨rfl,py,rfl⟩
    gi_wp2_with fail
    · -- the operation has an error: it is handed back
      obtain ⟨_,_,_,y3,y4⟩:=HX.out
      have hne:((op x.1 x.2).2.2 != 0)=true:=by assumption
      have he:err op (pre++[x])=(op x.1 x.2).2.2:=err_zero op pre x HE.out
      have hBW:Below w.heap.size w W:=below_of_grown hB (HG.out) (by omega)
      refine ⟨?_,rfl,?_,?_,?_,?_⟩
      · exact above_of ((((KeepsOthers.setCell _ _ _).trans (KeepsOthers.setCell _ _ _)).trans (KeepsOthers.setCell _ _ _)).trans (keepsOthers_up ((Up.refl _).ext py))) 0
      · rw [he];simpa using hne
      · exact (((hBW.setCell (p:=⟨w.heap.size+1+1+1,0,none⟩) (by simp;omega) _).setCell (p:=⟨w.heap.size+1+1+1,1,none⟩) (by simp;omega) _).setCell (p:=⟨w.heap.size+1+1+1+1,0,none⟩) (by simp;omega) _).trans (((Up.refl _).ext py).trans_below (by simp [World.setCell];omega))
      · exact ((((y3.set 0 (.int .i64 0)).set 1 (.int .i64 0)).other (b':=w.heap.size+1+1+1+1) (by omega) 0 (.int .i64 (op x.1 x.2).2.2)).ext py)
      · rw [he]
        exact ((((y4.other (b':=w.heap.size+1+1+1) (by omega) 0 (.int .i64 0)).other (b':=w.heap.size+1+1+1) (by omega) 1 (.int .i64 0)).set 0 (.int .i64 (op x.1 x.2).2.2)).ext py)
    · have hz:((op x.1 x.2).2.2 != 0)=false:=by assumption
      refine ⟨?_,?_,?_,?_,?_⟩
      · exact ((KeepsOthers.setCell _ _ _).trans (KeepsOthers.setCell _ _ _)).trans (keepsOthers_up ((Up.refl _).ext py))
      · exact ((((Up.refl _).ext py).below.block (O+1+1+1) (by simp [World.setCell];omega)).trans (Below.heap_setCell _ _ _ _ (by simp;omega))).trans (Below.heap_setCell _ _ _ _ (by simp;omega))
      · rw [err_zero op pre x HE.out];simpa using hz
      · exact grown_up (grown_set (grown_set HG.out 0 _) 1 _) ((Up.refl _).ext py)
      · rw [acc_snoc]
        exact ((HB.out.set 0 (.int .i64 (min (acc op pre).1 (op x.1 x.2).1))).set 1 (.int .i64 (max (acc op pre).2 (op x.1 x.2).2.1))).ext py
   case done =>
    rintro D W hD ⟨h1,h2,h3⟩ hK
    have hw0:=h2.size
    have b3:=x3.grown h2 (by simp;omega)
    have b4:=x4.grown h2 (by simp;omega)
    obtain ⟨c30,c31⟩:=b3.c2
    have c4:=b4.cell 0 rfl
    obtain ⟨cO0,cO1⟩:=h3.c2
    obtain ⟨f30,f31⟩:=b3.f2
    have f4:=b4.frozen 0
    have w3:w.heap.size+1+1+1<W.heap.size:=by omega
    have w4:w.heap.size+1+1+1+1<W.heap.size:=by omega
    have wO:O<W.heap.size:=by omega
    have HG:=hide h2
    have HB:=hide h3
    have HX:=hide (And.intro b3 b4)
    have HK:=hide hK
    have HE:combE op a b c d=((acc op (four a b c d)).1,(acc op (four a b c d)).2,0):=by unfold combE;rw [if_pos hv,if_pos h1]
    have HC:=hide HE
    clear h1 h2 h3 x2 x3 x4 xO xE b3 b4 hK HE
    gi_wp2
    have hK4:=(((KeepsOthers.setCell W ⟨w.heap.size+1+1+1,0,none⟩ (.int .i64 (acc op (four a b c d)).1)).trans (KeepsOthers.setCell _ ⟨w.heap.size+1+1+1,1,none⟩ (.int .i64 (acc op (four a b c d)).2))).trans (KeepsOthers.setCell _ ⟨w.heap.size+1+1+1+1,0,none⟩ (.int .i64 0))).same D _ HK.out rfl
    refine ⟨by simp,.inl ⟨_,_,rfl,run_takeDeferred hK4,?_⟩⟩
    have q3:=((((HX.out.1.set 0 (.int .i64 (acc op (four a b c d)).1)).set 1 (.int .i64 (acc op (four a b c d)).2)).other (b':=w.heap.size+1+1+1+1) (by omega) 0 (.int .i64 0)).put (D:=D) (by omega) (.deferred none))
    have q4:=((((HX.out.2.other (b':=w.heap.size+1+1+1) (by omega) 0 (.int .i64 (acc op (four a b c d)).1)).other (b':=w.heap.size+1+1+1) (by omega) 1 (.int .i64 (acc op (four a b c d)).2)).set 0 (.int .i64 0)).put (D:=D) (by omega) (.deferred none))
    have z0:=q3.cell 0 (v:=.int .i64 (acc op (four a b c d)).1) rfl
    have z1:=q3.cell 1 (v:=.int .i64 (acc op (four a b c d)).2) rfl
    have z2:=q4.cell 0 (v:=.int .i64 0) rfl
    have hBW:Below w.heap.size w W:=below_of_grown hB (HG.out) (by omega)
    have hBF:=below_put (((hBW.setCell (p:=⟨w.heap.size+1+1+1,0,none⟩) (by simp;omega) (.int .i64 (acc op (four a b c d)).1)).setCell (p:=⟨w.heap.size+1+1+1,1,none⟩) (by simp;omega) (.int .i64 (acc op (four a b c d)).2)).setCell (p:=⟨w.heap.size+1+1+1+1,0,none⟩) (by simp;omega) (.int .i64 0)) (D:=D) (by have:=hB.size;omega) (.deferred none)
    refine ⟨.tuple #[.agg #[.int .i64 (acc op (four a b c d)).1,.int .i64 (acc op (four a b c d)).2],.int .i64 0],?_,by rw [HC.out],hBF⟩
    clear q3 q4 hBW hBF hK4
    revert z0 z1 z2
    generalize World.putObj _ D _=WF
    intro z0 z1 z2
    simp [results,Tryz.results263,go_sem,z0,z1,z2]
   case stop =>
    rintro D c' pre W hD hpre ⟨rfl,h1,h2,h3,h4⟩ hK
    obtain ⟨post,hpost⟩:=hpre
    have he:err op (four a b c d)=err op pre:=by rw [← hpost];exact err_pre op pre post h1
    have HE:combE op a b c d=(0,0,err op pre):=by unfold combE;rw [if_pos hv,if_neg (by rw [he];exact h1),he]
    have hC:=hide HE
    have hBox:=hide (And.intro h3 h4)
    have hK':=hide hK
    have hB':=hide h2
    clear h1 h2 h3 h4 hK HE he hpost x2 x3 x4 xO xE
    gi_wp2
    refine ⟨by simp,.inl ⟨_,_,rfl,run_takeDeferred hK'.out,?_⟩⟩
    have q3:=hBox.out.1.put (D:=D) (by omega) (.deferred none)
    have q4:=hBox.out.2.put (D:=D) (by omega) (.deferred none)
    have z0:=q3.cell 0 (v:=.int .i64 0) rfl
    have z1:=q3.cell 1 (v:=.int .i64 0) rfl
    have z2:=q4.cell 0 (v:=.int .i64 (err op pre)) rfl
    refine ⟨.tuple #[.agg #[.int .i64 0,.int .i64 0],.int .i64 (err op pre)],?_,by rw [hC.out],below_put hB'.out (D:=D) (by have:=hB.size;omega) (.deferred none)⟩
    simp [results,Tryz.results263,go_sem,z0,z1,z2]
 · have hvb:(validE a b c d != 0)=true:=by simp [hv]
   have HC:combE op a b c d=(0,0,validE a b c d):=by unfold combE;rw [if_neg hv]
   rw [HC]
   (refine callsIn_of_wp_marks Tryz.func263 rfl trivial ?_ rfl;simp only [Tryz.ntmps263,List.size_toArray,List.length_cons,List.length_nil,Nat.reduceAdd,Nat.reduceSub,Array.replicate_succ,Array.replicate_zero,List.push_toArray,List.append_toArray,List.nil_append,List.cons_append])
   gi_wp2_with (refine ⟨trivial,rfl,?_⟩;gi_at_call 140;refine (callsIn_wide.2 (valid_any _ _ _ _ _)).mono ?_;rintro _ _ ⟨rfl,_,rfl⟩)
   refine ⟨.tuple #[.agg #[.int .i64 0,.int .i64 0],.int .i64 (validE a b c d)],?_,rfl,Up.below Up.go⟩
   simp [results,Tryz.results263,go_sem]
theorem combine_any (g:Nat) (op:OpE) (eg:∀ args w,(callFunc g args).run Tryz.prog w=.ok (.enter g args) w) (a b c d:Int)
 (hop:validE a b c d=0→∀ x∈four a b c d,∀ W,Gives Tryz.prog g #[.int .i64 x.1,.int .i64 x.2] W (.tuple #[.int .i64 (op x.1 x.2).1,.int .i64 (op x.1 x.2).2.1,.int .i64 (op x.1 x.2).2.2])) (w:World) :
 Gives Tryz.prog 263 #[.agg #[.int .i64 a,.int .i64 b],.agg #[.int .i64 c,.int .i64 d],.func (.func g) #[] #[]] w
  (.tuple #[.agg #[.int .i64 (combE op a b c d).1,.int .i64 (combE op a b c d).2.1],.int .i64 (combE op a b c d).2.2]) :=
 Calls.mono (callsIn_wide.1 (combine_in g op eg a b c d hop w)) fun _ _ ⟨he,hb⟩=>⟨he,Up.of_below hb⟩
end Go.Proofs.YteafglginnonnaaGreat
