/- Several texts in one. -/
import Derived.Test.YteafglginnonnaaGreatModk
import Derived.RangeFuncNested
import Derived.RangeFuncBound
import Derived.RangeFuncCalls
import Derived.RangeFuncLeaves
/- A range over a function whose iterator itself ranges over a function in its body: what an iterator promises when a round may come from within another loop's round; the statement's law over it, at an outermost loop and within a round. At fences that ask no depth. -/
set_option linter.unusedVariables false
set_option linter.unusedSimpArgs false
namespace Go.Proofs.YteafglginnonnaaGreat
open Go.RowKit
structure KeepsAbove (b:Nat) (W W':World):Prop where
 size:W.heap.size≤W'.heap.size
 same:∀ (k:Nat) (o:Obj),b≤k→W.heap[k]?=some o→o.isCells=false→W'.heap[k]?=some o
theorem above_of {W W':World} (h:KeepsOthers W W') (b:Nat):KeepsAbove b W W':=⟨h.size,fun k o _=>h.same k o⟩
theorem room_any {F:Fence} (hd:F.depth=none) (k:Nat):F.room k:=fun d h=>by rw [hd] at h;cases h
theorem roundIn_any {F:Fence} (hd:F.depth=none) {m m':Nat} {P:Program} {l:Nat} {f:FuncId} {tmps:Array Value} {assign body:Code} {w:World} {R:Ending→World→Prop}
 (h:RoundIn F m P l f tmps assign body w R):RoundIn F m' P l f tmps assign body w R:=⟨h.1,fun c cs _=>h.2 c cs (room_any hd _)⟩
def SeqN {α:Type} (F:Fence) (P:Program) (g:Nat) (lb:Array Value) (encs:α→Array Value) (Kp:World→World→Prop) (xs:List α) (w:World):Prop :=
 ∀ (m l:Nat) (J Jx:List α→World→Prop) (W:World),l<W.heap.size→Below w.heap.size w W→OwnFrom W.heap.size J→OwnFrom W.heap.size Jx →
  (∀ m pre x W1,J pre W1→pre++[x] <+: xs→YieldAt F m P l (encs x) W1 fun e W' =>
   (e=.returned (.bool true)∧J (pre++[x]) W'∧KeepsOthers W1 W'∧Kp W1 W')∨(e=.returned (.bool false)∧Jx (pre++[x]) W'∧KeepsAbove (l+1) W1 W')) →
  J [] W →
  CallsIn F m P g (#[.func (.yield l) #[] #[]]++lb) W fun e W'=>(∃ v,e=.returned v)∧(J xs W'∨(∃ pre,pre <+: xs∧Jx pre W'))
theorem SeqN.inRound {α:Type} {F:Fence} {P:Program} {g:Nat} {lb:Array Value} {encs:α→Array Value} {Kp:World→World→Prop} {xs:List α} {w:World} (l:Nat)
 (h:SeqN F P g lb encs Kp xs w):SeqN (F.inRound l) P g lb encs Kp xs w:=h
def leftN {α:Type} (b:Nat) (Kp:World→World→Prop) (I:List α→World→Prop) (Ix:Code→List α→World→Prop) (xs:List α) (W:World):Exit→Act→World→Prop
 | .normal,_,W'=>KeepsOthers W W'∧Kp W W'∧I xs W'
 | .ret,_,W'=>KeepsAbove b W W'∧Ix .ret xs W'
 | .exit id,_,W'=>KeepsAbove b W W'∧Ix (.exit id) xs W'
 | .goto t,_,W'=>KeepsAbove b W W'∧Ix (.goto t) xs W'
 | .panic _,_,_=>False
 | .outgrown,_,_=>False
def news {α:Type} (os:α→List Obj) (x:α) (W:World):World:=(os x).foldl (fun w o=>w.alloc o) W
theorem alloc_put (W:World) (o p:Obj) {L:Nat} (h:L<W.heap.size):(W.alloc o).putObj L p=(W.putObj L p).alloc o:=by
 show ({ W with heap:=(W.heap.push o).setIfInBounds L p }:World)={ W with heap:=(W.heap.setIfInBounds L p).push o }
 congr 1
 apply Array.ext_getElem?
 intro k
 simp only [Array.getElem?_setIfInBounds,Array.getElem?_push,Array.size_push,Array.size_setIfInBounds]
 by_cases h1:L=k
 · subst h1;simp [h,Nat.lt_succ_of_lt h];omega
 · simp [h1]
theorem news_put {α:Type} (os:α→List Obj) (x:α) (W:World) (p:Obj) {L:Nat} (h:L<W.heap.size):(news os x W).putObj L p=news os x (W.putObj L p):=by
 unfold news
 generalize os x=l
 induction l generalizing W with
 | nil=>rfl
 | cons o l ih=>rw [List.foldl_cons,List.foldl_cons,ih (W.alloc o) (by simp;omega),alloc_put W o p h]
theorem news_up {α:Type} (os:α→List Obj) (x:α) (W:World):Up W (news os x W):=by
 unfold news
 generalize os x=l
 induction l generalizing W with
 | nil=>exact Up.refl W
 | cons o l ih=>rw [List.foldl_cons];exact ((Up.refl W).alloc o).trans (ih _)
section
variable {F:Fence} {n:Nat} {P:Program}
theorem range_core {α:Type} (hd:F.depth=none) (hF:∀ f,F.fn f) {ps:Array Tmp} {assign body:Code} {Q:Exit→Act→World→Prop} {tm:Array Value} {a':Act} {w0 W1:World} {gf:Nat} {lb:Array Value}
 {encs:α→Array Value} {Kp:World→World→Prop} {xs:List α} (hseq:SeqN F P gf lb encs Kp xs w0)
 (hKt:∀ {A B C:World},Kp A B→Kp B C→Kp A C) (hps:∀ x,(encs x).size=ps.size)
 (I:List α→World→Prop) (Ix:Code→List α→World→Prop) (B:Nat) (hI:OwnFrom B I) (hIx:∀ c,OwnFrom B (Ix c)) (os:α→List Obj) (a₁:α→Nat→Act)
 (L D:Nat) (oD:Obj) (r0:Loop) {b:Nat} (hbL:b≤L) (hbD:b≤D) (hDL:D≠L) (hBL:B≤L) (hLW:L<W1.heap.size) (hDW:D<W1.heap.size) (hBW:B≤W1.heap.size) (hoD:oD.isCells=false)
 (e1:r0.state=.ready) (e2:r0.pending=none) (e3:r0.params=ps) (e4:r0.tmps=tm) (e5:r0.assign=assign) (e6:r0.body=body)
 (hKb:∀ (W:World) (o o':Obj),W.heap[L]?=some o→o.isCells=false→Kp W (W.putObj L o'))
 (hb0:Below w0.heap.size w0 W1) (h0:I [] W1) (hL0:W1.heap[L]?=some (.loop r0)) (hD0:W1.heap[D]?=some oD)
 (hassign:∀ (x:α) (W:World) (K:Act→World→Prop),K (a₁ x W.heap.size) (news os x W) →
  assign.wpIn (F.inRound L) 0 P (Exit.then K (fun _ _ _=>False)) { tmps:=(ps.zip (encs x)).foldl (fun t (p,v)=>t.setIfInBounds p v) tm,defers:=[] } W)
 (hbody:∀ (pre:List α) (x:α) (W:World),(∃ r,W.heap[L]?=some (.loop r))→I pre W→pre++[x] <+: xs→body.wpIn (F.inRound L) 0 P (leftN b Kp I Ix (pre++[x]) W) (a₁ x W.heap.size) (news os x W))
 (hdone:∀ (W:World),I xs W→W.heap[D]?=some oD→Q .normal a' W)
 (hstop:∀ (c:Code) (pre:List α) (W:World),pre <+: xs→Ix c pre W→W.heap[D]?=some oD→c.wpIn F n P Q a' W) :
 CallsIn F (n - 1) P gf (#[.func (.yield L) #[] #[]]++lb) W1 (rangePost F n P L Q a'):=by
 -- a block that is no cells,below the iterator's own,lies through what the iterator does
 have far:∀ {A C:World} {row:Option Nat} {k:Nat} {o:Obj},A.grownBy C row→(∀ r,row=some r→W1.heap.size≤r∧∃ o:Obj,A.heap[r]?=some o∧o.isCells=false) →
  k<W1.heap.size→A.heap[k]?=some o→C.heap[k]?=some o:=fun {A C row k o} hg hr hk ho =>
  (hg.block k (Array.getElem?_eq_some_iff.1 ho).1 (fun e=>by have:=(hr k e.symm).1;omega)).trans ho
 have near:∀ {A:World} {row:Option Nat},(∀ r,row=some r→W1.heap.size≤r∧∃ o:Obj,A.heap[r]?=some o∧o.isCells=false) →
  (∀ r,row=some r→B≤r∧∃ o:Obj,A.heap[r]?=some o∧o.isCells=false):=fun hr r e=>⟨Nat.le_trans hBW (hr r e).1,(hr r e).2⟩
 refine (hseq (n - 1) L (fun pre W=>I pre W∧W.heap[L]?=some (.loop r0)∧W.heap[D]?=some oD)
  (fun pre W=>∃ c,Ix c pre W∧W.heap[L]?=some (.loop { r0 with state:=.done,pending:=some c })∧W.heap[D]?=some oD) W1 hLW hb0
  (fun s A C row hs hg hr=>⟨hI s A C row hs.1 hg (near hr),far hg hr hLW hs.2.1,far hg hr hDW hs.2.2⟩)
  (fun s A C row ⟨c,h1,h2,h3⟩ hg hr=>⟨c,hIx c s A C row h1 hg (near hr),far hg hr hLW h2,far hg hr hDW h3⟩) ?_ ⟨h0,hL0,hD0⟩).mono ?_
 · rintro m pre x W ⟨hi,hl,hk⟩ hlen
   have hlt:=(Array.getElem?_eq_some_iff.1 hl).1
   have hy:=run_yield (P:=P) (args:=encs x) hl (by rw [e3];exact hps x)
   rw [e3,e4] at hy
   refine ⟨r0.fn,_,assign,body,by rw [e5,e6] at hy;exact hy,?_⟩
   have hln:(news os x W).heap[L]?=some (.loop r0):=((news_up os x W).below.block L hlt).trans hl
   refine roundIn_any hd (roundIn_of_wpIn (hF _) (hassign x W _ ⟨_,run_beginRound hln e1,?_⟩))
   rw [news_put os x W _ hlt,show W.heap.size=(W.putObj L (.loop { r0 with state:=.busy })).heap.size by simp]
   have hl2:(W.putObj L (.loop { r0 with state:=.busy })).heap[L]?=some (.loop { r0 with state:=.busy }):=World.putObj_heap_same hlt
   have hk2:(W.putObj L (.loop { r0 with state:=.busy })).heap[D]?=some oD:=(World.putObj_heap_other hDL).trans hk
   have hw2:=hKb W _ (.loop { r0 with state:=.busy }) hl rfl
   refine wpIn_mono (hbody pre x _ ⟨_,hl2⟩ (hI.putObj _ hi hBL hl rfl) hlen) ?_
   have others:∀ {W3:World} (o3:Obj),KeepsAbove b (W.putObj L (.loop { r0 with state:=.busy })) W3→KeepsAbove (L+1) W (W3.putObj L o3):=fun {W3} o3 h =>
    ⟨by have:=h.size;simp at this ⊢;exact this,fun k o hbk ho hc=>(World.putObj_heap_other (by omega)).trans (h.same k o (by omega) ((World.putObj_heap_other (by omega)).trans ho) hc)⟩
   have leave:∀ (c:Code) (W3:World),KeepsAbove b (W.putObj L (.loop { r0 with state:=.busy })) W3→Ix c (pre++[x]) W3 →
    ∃ v w',(Instr.endRound L (some c)).run P W3=.ok v w' ∧
     ((Ending.returned v=.returned (.bool true)∧(I (pre++[x]) w'∧w'.heap[L]?=some (.loop r0)∧w'.heap[D]?=some oD)∧KeepsOthers W w'∧Kp W w') ∨
      (Ending.returned v=.returned (.bool false)∧(∃ c,Ix c (pre++[x]) w'∧w'.heap[L]?=some (.loop { r0 with state:=.done,pending:=some c })∧w'.heap[D]?=some oD)∧KeepsAbove (L+1) W w')):=fun c W3 h hx=>by
    have hl3:=h.same _ _ hbL hl2 rfl
    have hk3:=h.same _ _ hbD hk2 hoD
    have hlt3:=(Array.getElem?_eq_some_iff.1 hl3).1
    exact ⟨_,_,run_endRound (P:=P) (some c) hl3,.inr ⟨rfl,⟨c,(hIx c).putObj _ hx hBL hl3 rfl,World.putObj_heap_same hlt3,(World.putObj_heap_other hDL).trans hk3⟩,others _ h⟩⟩
   rintro e a3 W3 hp
   cases e with
   | normal =>
    obtain ⟨h,hkp,hi3⟩:=hp
    have hl3:=h.same _ _ hl2 rfl
    have hk3:=h.same _ _ hk2 hoD
    have hlt3:=(Array.getElem?_eq_some_iff.1 hl3).1
    have hend:=run_endRound (P:=P) none hl3
    have hr0:({ ({ r0 with state:=.busy }:Loop) with state:=if (none:Option Code).isNone then .ready else .done,pending:=none }:Loop)=r0:=by
     cases r0;simp only at e1 e2;subst e1;subst e2;rfl
    rw [hr0] at hend
    refine ⟨_,_,hend,.inl ⟨rfl,⟨hI.putObj _ hi3 hBL hl3 rfl,World.putObj_heap_same hlt3,(World.putObj_heap_other hDL).trans hk3⟩,?_,hKt (hKt hw2 hkp) (hKb _ _ _ hl3 rfl)⟩⟩
    refine ⟨by have:=h.size;simp at this ⊢;exact this,fun k o ho hc=>?_⟩
    by_cases hkl:k=L
    · subst hkl
      rw [hl] at ho
      rw [← ho]
      exact World.putObj_heap_same hlt3
    · exact (World.putObj_heap_other hkl).trans (h.same k o ((World.putObj_heap_other hkl).trans ho) hc)
   | ret=>exact leave _ _ hp.1 hp.2
   | exit id=>exact leave _ _ hp.1 hp.2
   | goto t=>exact leave _ _ hp.1 hp.2
   | panic ch=>exact hp.elim
   | outgrown=>exact hp.elim
 · rintro e W2 ⟨⟨v,rfl⟩,(⟨hi,hl,hk⟩ | ⟨pre,hSp,c,hi,hl,hk⟩)⟩
   · have hend:=run_endLoop (P:=P) hl (by rw [e1];simp)
     rw [e2] at hend
     exact ⟨none,_,hend,hdone _ (hI.putObj _ hi hBL hl rfl) ((World.putObj_heap_other hDL).trans hk)⟩
   · have hend:=run_endLoop (P:=P) hl (by simp)
     exact ⟨some c,_,hend,hstop c pre _ hSp ((hIx c).putObj _ hi hBL hl rfl) ((World.putObj_heap_other hDL).trans hk)⟩
theorem range_outer {α:Type} (hd:F.depth=none) (hF:∀ f,F.fn f) (hro:F.round=none) {g:Operand} {ps:Array Tmp} {assign body:Code} {Q:Exit→Act→World→Prop} {a:Act} {w0 w:World} {gf:Nat} {lb:Array Value}
 (hg:a.eval g=.func (.func gf) #[] lb) (eg:∀ args w,(callFunc gf args).run P w=.ok (.enter gf args) w)
 {encs:α→Array Value} {Kp:World→World→Prop} {xs:List α} (hseq:SeqN F P gf lb encs Kp xs w0)
 (hKt:∀ {A B C:World},Kp A B→Kp B C→Kp A C) (hKb:∀ (W:World) (L:Nat) (o o':Obj),w.heap.size≤L→W.heap[L]?=some o→o.isCells=false→Kp W (W.putObj L o'))
 (hb0:Below w0.heap.size w0 w) (hps:∀ x,(encs x).size=ps.size) {b:Nat} (hb:b≤w.heap.size)
 (I:List α→World→Prop) (Ix:Code→List α→World→Prop) (hI:OwnFrom w.heap.size I) (hIx:∀ c,OwnFrom w.heap.size (Ix c)) (h0:I [] w) (os:α→List Obj) (a₁:α→Nat→Act)
 (hassign:∀ (L:Nat) (x:α) (W:World) (K:Act→World→Prop),K (a₁ x W.heap.size) (news os x W) →
  assign.wpIn (F.inRound L) 0 P (Exit.then K (fun _ _ _=>False)) { tmps:=(ps.zip (encs x)).foldl (fun t (p,v)=>t.setIfInBounds p v) a.tmps,defers:=[] } W)
 (hbody:∀ (L:Nat) (pre:List α) (x:α) (W:World),w.heap.size≤L→(∃ r,W.heap[L]?=some (.loop r))→I pre W→pre++[x] <+: xs→body.wpIn (F.inRound L) 0 P (leftN b Kp I Ix (pre++[x]) W) (a₁ x W.heap.size) (news os x W))
 (hdone:∀ (D:Nat) (W:World),w.heap.size≤D→I xs W→W.heap[D]?=some (.deferred (some []))→Q .normal { a with defers:={ target:=.collected D,args:=#[] }::a.defers } W)
 (hstop:∀ (D:Nat) (c:Code) (pre:List α) (W:World),w.heap.size≤D→pre <+: xs→Ix c pre W→W.heap[D]?=some (.deferred (some []))→c.wpIn F n P Q { a with defers:={ target:=.collected D,args:=#[] }::a.defers } W) :
 (Code.rangeFunc g ps assign body).wpIn F n P Q a w:=by
 refine wpIn_rangeFunc ?_
 intro fn _
 rw [hro]
 obtain ⟨r0,hr0⟩:∃ r0:Loop,r0={ state:=.ready,pending:=none,fn,tmps:=a.tmps,params:=ps,assign,body,defers:=w.heap.size }:=⟨_,rfl⟩
 have hL:((w.alloc (.deferred (some []))).alloc (.loop r0)).heap[w.heap.size+1]?=some (.loop r0):=by
  have:=World.alloc_heap_new (w.alloc (.deferred (some []))) (.loop r0);rwa [World.size_alloc] at this
 have hD:((w.alloc (.deferred (some []))).alloc (.loop r0)).heap[w.heap.size]?=some (.deferred (some [])) :=
  (Below.heap_alloc _ _ _ (by simp)).trans (World.alloc_heap_new w _)
 refine ⟨w.heap.size+1,[{ target:=.collected w.heap.size,args:=#[] }],(w.alloc (.deferred (some []))).alloc (.loop r0),{ target:=.fn (.func gf) lb,args:=#[.func (.yield (w.heap.size+1)) #[] #[]] },
  (w.alloc (.deferred (some []))).alloc (.loop r0),gf,#[.func (.yield (w.heap.size+1)) #[] #[]]++lb,(w.alloc (.deferred (some []))).alloc (.loop r0),?_,?_,?_,?_,fun h=>(by rw [hd] at h;cases h),?_⟩
 · rw [hr0];exact run_enterLoop_outer _ _ _ _ _
 · simp only [resolve,hg]
   simp [go_sem]
 · intro f' _;exact hF f'
 · simp [invoke,go_sem,eg]
 · exact range_core hd hF hseq hKt hps I Ix w.heap.size hI hIx os a₁ (w.heap.size+1) w.heap.size (.deferred (some [])) r0 (by omega) hb (by omega) (by omega) (by simp) (by simp;omega) (by simp;omega) rfl
    (by rw [hr0]) (by rw [hr0]) (by rw [hr0]) (by rw [hr0]) (by rw [hr0]) (by rw [hr0]) (fun W o o' h hc=>hKb W _ o o' (by omega) h hc)
    (hb0.trans ((((Below.refl _ w).alloc (Nat.le_refl _) _).alloc (by simp) _).mono hb0.size)) (hI.alloc _ (hI.alloc _ h0)) hL hD (hassign _) (fun pre x W=>hbody _ pre x W (by omega))
    (fun W=>hdone _ W (Nat.le_refl _)) (fun c pre W=>hstop _ c pre W (Nat.le_refl _))
end
def Box (w:World) (b:Nat) (c:Array Value) (t:TypeId):Prop:=w.heap[b]?=some (.cells c t (0,0))
theorem Box.lt {w:World} {b:Nat} {c:Array Value} {t:TypeId} (h:Box w b c t):b<w.heap.size:=(Array.getElem?_eq_some_iff.1 h).1
theorem Box.cell {w:World} {b:Nat} {c:Array Value} {t:TypeId} (h:Box w b c t) (i:Nat) {v:Value} (hv:c[i]?=some v):w.cell? ⟨b,i,none⟩=some v:=by
 unfold World.cell?
 rw [show w.heap[(⟨b,i,none⟩:Addr).block]?=some (.cells c t (0,0)) from h]
 simpa using hv
theorem Box.frozen {w:World} {b:Nat} {c:Array Value} {t:TypeId} (h:Box w b c t) (i:Nat):w.frozen? ⟨b,i,none⟩=false:=by
 unfold World.frozen?
 rw [show w.heap[(⟨b,i,none⟩:Addr).block]?=some (.cells c t (0,0)) from h]
 simp
theorem Box.new (w:World) (c:Array Value) (t:TypeId):Box (w.alloc (.cells c t)) w.heap.size c t:=World.alloc_heap_new w _
theorem Box.mk {w:World} {b:Nat} {c:Array Value} {t:TypeId} (h:w.heap.size=b):Box (w.alloc (.cells c t)) b c t:=by subst h;exact Box.new w c t
theorem Box.up {w w':World} {b:Nat} {c:Array Value} {t:TypeId} (h:Box w b c t) (hu:Up w w'):Box w' b c t:=(hu.below.block b h.lt).trans h
theorem Box.alloc {w:World} {b:Nat} {c:Array Value} {t:TypeId} (h:Box w b c t) (o:Obj):Box (w.alloc o) b c t:=h.up ((Up.refl _).alloc _)
theorem Box.ext {w:World} {b:Nat} {c:Array Value} {t:TypeId} (h:Box w b c t) (p:Ext):Box (Go.Proofs.YteafglginnonnaaGreat.ext w p) b c t:=h.up ((Up.refl _).ext _)
theorem Box.drew {w:World} {b:Nat} {c:Array Value} {t:TypeId} (h:Box w b c t):Box w.drew b c t:=h.up (Up.refl _).drew
theorem Box.two {w:World} {b:Nat} {x y:Value} {t:TypeId} (h:Box w b #[x,y] t):w.cell? ⟨b,0,none⟩=some x∧w.cell? ⟨b,1,none⟩=some y:=⟨h.cell 0 rfl,h.cell 1 rfl⟩
theorem Box.four {w:World} {b:Nat} {x y z u:Value} {t:TypeId} (h:Box w b #[x,y,z,u] t):(w.cell? ⟨b,0,none⟩=some x∧w.cell? ⟨b,1,none⟩=some y)∧w.cell? ⟨b,2,none⟩=some z∧w.cell? ⟨b,3,none⟩=some u:=⟨⟨h.cell 0 rfl,h.cell 1 rfl⟩,h.cell 2 rfl,h.cell 3 rfl⟩
theorem Box.set {w:World} {b:Nat} {c:Array Value} {t:TypeId} (h:Box w b c t) (i:Nat) (v:Value):Box (w.setCell ⟨b,i,none⟩ v) b (c.setIfInBounds i v) t:=by
 unfold Box World.setCell
 rw [Array.getElem?_modify,if_pos rfl]
 rw [show w.heap[b]?=some (.cells c t (0,0)) from h]
 simp
theorem Box.other {w:World} {b b':Nat} {c:Array Value} {t:TypeId} (h:Box w b c t) (hne:b≠b') (i:Nat) (v:Value):Box (w.setCell ⟨b',i,none⟩ v) b c t :=
 (Below.heap_setCell w _ v b hne).trans h
theorem Box.put {w:World} {b D:Nat} {c:Array Value} {t:TypeId} (h:Box w b c t) (hne:b≠D) (o:Obj):Box (w.putObj D o) b c t:=(World.putObj_heap_other hne).trans h
theorem below_put {a w:World} {D:Nat} (h:Below a.heap.size a w) (hD:a.heap.size≤D) (o:Obj):Below a.heap.size a (w.putObj D o) :=
 h.grown (grownBy_putObj' w D o) h.size (fun k e=>by cases e;exact hD)
theorem Box.grown {w w':World} {row:Option Nat} {b:Nat} {c:Array Value} {t:TypeId} (h:Box w b c t) (hg:w.grownBy w' row) (hr:row≠some b):Box w' b c t :=
 (hg.block b h.lt (Ne.symm hr)).trans h
theorem Up.trans_below {w w':World} {B:Nat} (h:Up w w') (hB:B≤w.heap.size):Below B w w':=h.below.mono hB
theorem keepsOthers_up {w w':World} (h:Up w w'):KeepsOthers w w' :=
 ⟨h.below.size,fun k o ho _=>(h.below.block k (Array.getElem?_eq_some_iff.1 ho).1).trans ho⟩
theorem grown_up {a w w':World} {row:Option Nat} (h:a.grownBy w row) (k:Up w w'):a.grownBy w' row :=
 ⟨k.below.os.trans h.os,k.below.tape.trans h.tape,k.below.output.trans h.output,Nat.le_trans h.size k.below.size,fun i hi hne=>(k.below.block i (Nat.lt_of_lt_of_le hi h.size)).trans (h.block i hi hne)⟩
theorem grown_set {a w:World} {O:Nat} (h:a.grownBy w (some O)) (i:Nat) (v:Value):a.grownBy (w.setCell ⟨O,i,none⟩ v) (some O) :=
 ⟨h.os,h.tape,h.output,by simpa [World.setCell] using h.size,fun k hk hne=>(Below.heap_setCell w _ v k (fun e=>hne (by rw [show k=O from e]))).trans (h.block k hk hne)⟩
theorem grown_turn {a w w':World} {row row':Option Nat} (h:a.grownBy w row) (hg:w.grownBy w' row') (hr:∀ r,row'=some r→a.heap.size≤r):a.grownBy w' row :=
 ⟨hg.os.trans h.os,hg.tape.trans h.tape,hg.output.trans h.output,Nat.le_trans h.size hg.size,fun k hk hne=>(hg.block k (Nat.lt_of_lt_of_le hk h.size) (fun e=>by have:=hr k e.symm;omega)).trans (h.block k hk hne)⟩
theorem grown_refl (a:World) (row:Option Nat):a.grownBy a row:=⟨rfl,rfl,rfl,Nat.le_refl _,fun _ _ _=>rfl⟩
theorem below_of_grown {a w w':World} {O:Nat} (h:Below a.heap.size a w) (hg:w.grownBy w' (some O)) (hO:a.heap.size≤O):Below a.heap.size a w' :=
 h.grown hg h.size (fun k e=>by cases e;exact hO)
theorem Box.go {w:World} {b:Nat} {c:Array Value} {t:TypeId} (h:Box w b c t:=by repeat (first|exact Box.mk rfl|(refine Box.mk ?_;simp;done)|apply Box.ext|apply Box.drew|apply Box.alloc|apply Box.two1|(refine Box.other ?_ (by omega) _ _))):Box w b c t:=h
theorem Box.via {w W:World} {b:Nat} {c:Array Value} {t:TypeId} (h:Box w b c t) (f:Box w b c t→Box W b c t:=by intro hbox;repeat (first|with_reducible exact hbox|apply Box.ext|apply Box.drew|apply Box.alloc|(refine Box.other ?_ (by simp;try omega) _ _))):Box W b c t:=f h
theorem Box.c2 {w:World} {b:Nat} {t:TypeId} {x0 x1:Value} {r:List Value} (h:Box w b (x0::x1::r).toArray t):w.cell? ⟨b,0,none⟩=some x0∧w.cell? ⟨b,1,none⟩=some x1:=⟨h.cell 0 rfl,h.cell 1 rfl⟩
theorem Box.f2 {w:World} {b:Nat} {c:Array Value} {t:TypeId} (h:Box w b c t):w.frozen? ⟨b,0,none⟩=false∧w.frozen? ⟨b,1,none⟩=false:=⟨h.frozen 0,h.frozen 1⟩
theorem Box.c3 {w:World} {b:Nat} {t:TypeId} {x0 x1 x2:Value} {r:List Value} (h:Box w b (x0::x1::x2::r).toArray t):w.cell? ⟨b,0,none⟩=some x0∧w.cell? ⟨b,1,none⟩=some x1∧w.cell? ⟨b,2,none⟩=some x2:=⟨h.cell 0 rfl,h.cell 1 rfl,h.cell 2 rfl⟩
theorem Box.f3 {w:World} {b:Nat} {c:Array Value} {t:TypeId} (h:Box w b c t):w.frozen? ⟨b,0,none⟩=false∧w.frozen? ⟨b,1,none⟩=false∧w.frozen? ⟨b,2,none⟩=false:=⟨h.frozen 0,h.frozen 1,h.frozen 2⟩
theorem Box.c4 {w:World} {b:Nat} {t:TypeId} {x0 x1 x2 x3:Value} {r:List Value} (h:Box w b (x0::x1::x2::x3::r).toArray t):w.cell? ⟨b,0,none⟩=some x0∧w.cell? ⟨b,1,none⟩=some x1∧w.cell? ⟨b,2,none⟩=some x2∧w.cell? ⟨b,3,none⟩=some x3:=⟨h.cell 0 rfl,h.cell 1 rfl,h.cell 2 rfl,h.cell 3 rfl⟩
theorem Box.f4 {w:World} {b:Nat} {c:Array Value} {t:TypeId} (h:Box w b c t):w.frozen? ⟨b,0,none⟩=false∧w.frozen? ⟨b,1,none⟩=false∧w.frozen? ⟨b,2,none⟩=false∧w.frozen? ⟨b,3,none⟩=false:=⟨h.frozen 0,h.frozen 1,h.frozen 2,h.frozen 3⟩
theorem Box.c5 {w:World} {b:Nat} {t:TypeId} {x0 x1 x2 x3 x4:Value} {r:List Value} (h:Box w b (x0::x1::x2::x3::x4::r).toArray t):w.cell? ⟨b,0,none⟩=some x0∧w.cell? ⟨b,1,none⟩=some x1∧w.cell? ⟨b,2,none⟩=some x2∧w.cell? ⟨b,3,none⟩=some x3∧w.cell? ⟨b,4,none⟩=some x4:=⟨h.cell 0 rfl,h.cell 1 rfl,h.cell 2 rfl,h.cell 3 rfl,h.cell 4 rfl⟩
theorem Box.f5 {w:World} {b:Nat} {c:Array Value} {t:TypeId} (h:Box w b c t):w.frozen? ⟨b,0,none⟩=false∧w.frozen? ⟨b,1,none⟩=false∧w.frozen? ⟨b,2,none⟩=false∧w.frozen? ⟨b,3,none⟩=false∧w.frozen? ⟨b,4,none⟩=false:=⟨h.frozen 0,h.frozen 1,h.frozen 2,h.frozen 3,h.frozen 4⟩
theorem Box.f6 {w:World} {b:Nat} {c:Array Value} {t:TypeId} (h:Box w b c t):w.frozen? ⟨b,0,none⟩=false∧w.frozen? ⟨b,1,none⟩=false∧w.frozen? ⟨b,2,none⟩=false∧w.frozen? ⟨b,3,none⟩=false∧w.frozen? ⟨b,4,none⟩=false∧w.frozen? ⟨b,5,none⟩=false:=⟨h.frozen 0,h.frozen 1,h.frozen 2,h.frozen 3,h.frozen 4,h.frozen 5⟩
theorem Box.c8 {w:World} {b:Nat} {t:TypeId} {x0 x1 x2 x3 x4 x5 x6 x7:Value} {r:List Value} (h:Box w b (x0::x1::x2::x3::x4::x5::x6::x7::r).toArray t):w.cell? ⟨b,0,none⟩=some x0∧w.cell? ⟨b,1,none⟩=some x1∧w.cell? ⟨b,2,none⟩=some x2∧w.cell? ⟨b,3,none⟩=some x3∧w.cell? ⟨b,4,none⟩=some x4∧w.cell? ⟨b,5,none⟩=some x5∧w.cell? ⟨b,6,none⟩=some x6∧w.cell? ⟨b,7,none⟩=some x7:=⟨h.cell 0 rfl,h.cell 1 rfl,h.cell 2 rfl,h.cell 3 rfl,h.cell 4 rfl,h.cell 5 rfl,h.cell 6 rfl,h.cell 7 rfl⟩
theorem Box.f8 {w:World} {b:Nat} {c:Array Value} {t:TypeId} (h:Box w b c t):w.frozen? ⟨b,0,none⟩=false∧w.frozen? ⟨b,1,none⟩=false∧w.frozen? ⟨b,2,none⟩=false∧w.frozen? ⟨b,3,none⟩=false∧w.frozen? ⟨b,4,none⟩=false∧w.frozen? ⟨b,5,none⟩=false∧w.frozen? ⟨b,6,none⟩=false∧w.frozen? ⟨b,7,none⟩=false:=⟨h.frozen 0,h.frozen 1,h.frozen 2,h.frozen 3,h.frozen 4,h.frozen 5,h.frozen 6,h.frozen 7⟩
theorem Box.c9 {w:World} {b:Nat} {t:TypeId} {x0 x1 x2 x3 x4 x5 x6 x7 x8:Value} {r:List Value} (h:Box w b (x0::x1::x2::x3::x4::x5::x6::x7::x8::r).toArray t):w.cell? ⟨b,0,none⟩=some x0∧w.cell? ⟨b,1,none⟩=some x1∧w.cell? ⟨b,2,none⟩=some x2∧w.cell? ⟨b,3,none⟩=some x3∧w.cell? ⟨b,4,none⟩=some x4∧w.cell? ⟨b,5,none⟩=some x5∧w.cell? ⟨b,6,none⟩=some x6∧w.cell? ⟨b,7,none⟩=some x7∧w.cell? ⟨b,8,none⟩=some x8:=⟨h.cell 0 rfl,h.cell 1 rfl,h.cell 2 rfl,h.cell 3 rfl,h.cell 4 rfl,h.cell 5 rfl,h.cell 6 rfl,h.cell 7 rfl,h.cell 8 rfl⟩
theorem Box.f9 {w:World} {b:Nat} {c:Array Value} {t:TypeId} (h:Box w b c t):w.frozen? ⟨b,0,none⟩=false∧w.frozen? ⟨b,1,none⟩=false∧w.frozen? ⟨b,2,none⟩=false∧w.frozen? ⟨b,3,none⟩=false∧w.frozen? ⟨b,4,none⟩=false∧w.frozen? ⟨b,5,none⟩=false∧w.frozen? ⟨b,6,none⟩=false∧w.frozen? ⟨b,7,none⟩=false∧w.frozen? ⟨b,8,none⟩=false:=⟨h.frozen 0,h.frozen 1,h.frozen 2,h.frozen 3,h.frozen 4,h.frozen 5,h.frozen 6,h.frozen 7,h.frozen 8⟩
theorem Box.c11 {w:World} {b:Nat} {t:TypeId} {x0 x1 x2 x3 x4 x5 x6 x7 x8 x9 x10:Value} {r:List Value} (h:Box w b (x0::x1::x2::x3::x4::x5::x6::x7::x8::x9::x10::r).toArray t):w.cell? ⟨b,0,none⟩=some x0∧w.cell? ⟨b,1,none⟩=some x1∧w.cell? ⟨b,2,none⟩=some x2∧w.cell? ⟨b,3,none⟩=some x3∧w.cell? ⟨b,4,none⟩=some x4∧w.cell? ⟨b,5,none⟩=some x5∧w.cell? ⟨b,6,none⟩=some x6∧w.cell? ⟨b,7,none⟩=some x7∧w.cell? ⟨b,8,none⟩=some x8∧w.cell? ⟨b,9,none⟩=some x9∧w.cell? ⟨b,10,none⟩=some x10:=⟨h.cell 0 rfl,h.cell 1 rfl,h.cell 2 rfl,h.cell 3 rfl,h.cell 4 rfl,h.cell 5 rfl,h.cell 6 rfl,h.cell 7 rfl,h.cell 8 rfl,h.cell 9 rfl,h.cell 10 rfl⟩
theorem Box.f11 {w:World} {b:Nat} {c:Array Value} {t:TypeId} (h:Box w b c t):w.frozen? ⟨b,0,none⟩=false∧w.frozen? ⟨b,1,none⟩=false∧w.frozen? ⟨b,2,none⟩=false∧w.frozen? ⟨b,3,none⟩=false∧w.frozen? ⟨b,4,none⟩=false∧w.frozen? ⟨b,5,none⟩=false∧w.frozen? ⟨b,6,none⟩=false∧w.frozen? ⟨b,7,none⟩=false∧w.frozen? ⟨b,8,none⟩=false∧w.frozen? ⟨b,9,none⟩=false∧w.frozen? ⟨b,10,none⟩=false:=⟨h.frozen 0,h.frozen 1,h.frozen 2,h.frozen 3,h.frozen 4,h.frozen 5,h.frozen 6,h.frozen 7,h.frozen 8,h.frozen 9,h.frozen 10⟩
theorem Box.viz {w W:World} {b:Nat} {c:Array Value} {t:TypeId} (h:Box w b c t) (f:Box w b c t→Box W b c t:=by intro hbox;with_reducible repeat (first|exact hbox|apply Box.ext|apply Box.alloc|apply Box.drew|refine Box.other ?_ (by omega) _ _)):Box W b c t:=f h
end Go.Proofs.YteafglginnonnaaGreat
