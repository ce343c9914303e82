/- Several texts in one. -/
import Derived.Test.YteafglginnonnaaGreatSkyE
import Derived.Test.YteafglginnonnaaGreatSkyR
import Derived.Test.YteafglginnonnaaGreatFRefO
import Derived.Test.YteafglginnonnaaGreatFRefS
import Derived.Test.YteafglginnonnaaGreatModk
import Derived.Test.YteafglginnonnaaGreatPush
import Derived.Test.YteafglginnonnaaGreatOwn
/- Reference bolideref04: states, boxes, sets. Conditions: what lies in memory. -/
namespace Go.Proofs.YteafglginnonnaaGreat
set_option linter.unusedVariables false
set_option linter.unusedSimpArgs false
open Go.RowKit Go.Shelf
end Go.Proofs.YteafglginnonnaaGreat
/- Reference bolideref04: steps. Conditions: what lies in memory, valid boxes. -/
namespace Go.Proofs.YteafglginnonnaaGreat
set_option linter.unusedVariables false
set_option linter.unusedSimpArgs false
open Go.RowKit Go.Shelf
end Go.Proofs.YteafglginnonnaaGreat
/- Reference bolideref04: the widest span of a box, its halves. Conditions: what lies in memory. -/
namespace Go.Proofs.YteafglginnonnaaGreat
set_option linter.unusedVariables false
set_option linter.unusedSimpArgs false
open Go.RowKit Go.Shelf
def bestI (l:List Int):Nat → Nat
 | 0=>0
 | k + 1=>if l.getD (bestI l k) 0 < l.getD (k + 1) 0 then k + 1 else bestI l k
def widL (b:BoxD):List Int:=[b.x1 - b.x0,b.y1 - b.y0,b.u1 - b.u0,b.v1 - b.v0]
def widI (b:BoxD):Nat:=bestI (widL b) 3
def widN (b:BoxD):Int:=(widL b).getD (widI b) 0
def loL (b:BoxD):List Int:=[b.x0,b.y0,b.u0,b.v0]
def hiL (b:BoxD):List Int:=[b.x1,b.y1,b.u1,b.v1]
structure BNum (b:BoxD):Prop where
 h:∀ i,i < 4 → (-1000000000000 ≤ (loL b).getD i 0 ∧ (loL b).getD i 0 ≤ 1000000000000) ∧ -1000000000000 ≤ (hiL b).getD i 0 ∧ (hiL b).getD i 0 ≤ 1000000000000
theorem BOk.num {b:BoxD} (h:BOk b):BNum b:=⟨fun i hi=>by
 have h1:=h.x
 have h2:=h.y
 have h3:=h.u
 have h4:=h.v
 unfold loL hiL
 match i,hi with
 | 0,_=>simp;omega
 | 1,_=>simp;omega
 | 2,_=>simp;omega
 | 3,_=>simp;omega⟩
def cutB (b:BoxD) (i:Nat):BoxD × BoxD:=match i with
 | 0=>({ b with x1:=(b.x0 + b.x1) / 2 },{ b with x0:=(b.x0 + b.x1) / 2 + 1 })
 | 1=>({ b with y1:=(b.y0 + b.y1) / 2 },{ b with y0:=(b.y0 + b.y1) / 2 + 1 })
 | 2=>({ b with u1:=(b.u0 + b.u1) / 2 },{ b with u0:=(b.u0 + b.u1) / 2 + 1 })
 | _=>({ b with v1:=(b.v0 + b.v1) / 2 },{ b with v0:=(b.v0 + b.v1) / 2 + 1 })
def zeroBx:BoxD:=⟨0,0,0,0,0,0,0,0⟩
def splitV (b:BoxD):(BoxD × BoxD) × Bool:=if boxE b = 0 ∧ widN b ≠ 0 then (cutB b (widI b),true) else ((zeroBx,zeroBx),false)
end Go.Proofs.YteafglginnonnaaGreat
/- Reference bolideref04: Split. Conditions: what lies in memory. -/
namespace Go.Proofs.YteafglginnonnaaGreat
set_option linter.unusedVariables false
set_option linter.unusedSimpArgs false
open Go.RowKit Go.Shelf
end Go.Proofs.YteafglginnonnaaGreat
/- A list at the end of another one; parts of lists. Conditions: what lies in memory. -/
namespace Go.Proofs.YteafglginnonnaaGreat
set_option linter.unusedVariables false
set_option linter.unusedSimpArgs false
open Go.RowKit Go.Shelf
theorem Own.one {α:Type} {T:Rw α} {e:TypeId} {base:Nat} {w:World} {g:Nat} {x:α} (hB:Box w g (T.f x).toArray e) (hg:base ≤ g):Own T e base w (.slice (some ⟨g,0,none⟩) 1 1) [x]:=by
 unfold Own
 have h1:T.flat [x] = T.f x:=by unfold Rw.flat;simp
 rw [h1]
 exact ⟨by simp [T.fk],.inr ⟨g,1,(T.f x).toArray,rfl,hg,hB,Nat.le_refl _,by unfold maxLen;decide,by simp [T.fk],by simp [← T.fk x]⟩⟩
theorem Own.cap {α:Type} {T:Rw α} {e:TypeId} {base:Nat} {w:World} {a:Option Addr} {n c:Nat} {l:List α} (h:Own T e base w (.slice a n c) l):n ≤ c ∨ l = []:=by
 rcases h.2 with ⟨_,h0⟩ | ⟨g,cap,cur,hv,_,_,h1,_⟩
 · exact .inr (List.length_eq_zero_iff.1 h0)
 · simp at hv
   obtain ⟨_,h2,h3⟩:=hv
   exact .inl (by rw [h2,h3];exact h1)
section
variable {P:Program} {ops:Array Oper} {rest:List Oper} {o:Oper} {a:Act} {Q:Exit → Act → World → Prop}
end
theorem Lst.take {α:Type} {T:Rw α} {K:Nat → Prop} {w:World} {a:Option Addr} {n c:Nat} {l:List α} (h:Lst T K w (.slice a n c) l) {j:Nat} (hj:j ≤ l.length) (c':Nat):Lst T K w (.slice a j c') (l.take j):=by
 obtain ⟨a',c0,h1,h2,h3⟩:=h
 simp at h1
 obtain ⟨rfl,rfl,rfl⟩:=h1
 refine ⟨a,c',by simp [Nat.min_eq_left hj],by simp;omega,fun h0=>?_⟩
 obtain ⟨b,o,e1,e2,e3,e4⟩:=h3 (by intro e;subst e;simp at h0)
 refine ⟨b,o,e1,e2,e3,fun i x hx=>e4 i x ?_⟩
 rw [List.getElem?_take] at hx
 split at hx
 · exact hx
 · cases hx
theorem Lst.drop {α:Type} {T:Rw α} {K:Nat → Prop} {w:World} {b o n c:Nat} {l:List α} (h:Lst T K w (.slice (some ⟨b,o,none⟩) n c) l) (j:Nat) (c':Nat):Lst T K w (.slice (some ⟨b,o + j * T.k,none⟩) (n - j) c') (l.drop j):=by
 obtain ⟨a',c0,h1,h2,h3⟩:=h
 simp at h1
 obtain ⟨rfl,rfl,rfl⟩:=h1
 refine ⟨some ⟨b,o + j * T.k,none⟩,c',by simp,by simp;omega,fun h0=>?_⟩
 obtain ⟨b',o',e1,e2,e3,e4⟩:=h3 (by intro e;subst e;simp at h0)
 simp at e1
 obtain ⟨rfl,rfl⟩:=e1
 refine ⟨b,o + j * T.k,rfl,e2,e3,fun i x hx=>?_⟩
 rw [List.getElem?_drop] at hx
 obtain ⟨vs,f1,f2,f3⟩:=e4 (j + i) x hx
 refine ⟨vs,f1,f2,fun q u hu=>?_⟩
 have:=f3 q u hu
 rw [Nat.add_mul] at this
 rw [← this]
 congr 2
 omega
end Go.Proofs.YteafglginnonnaaGreat
/- Reference bolideref04: the cells of a box. Conditions: a valid box, a right number. -/
namespace Go.Proofs.YteafglginnonnaaGreat
set_option linter.unusedVariables false
set_option linter.unusedSimpArgs false
open Go.RowKit Go.Shelf
structure CeS (w:World) (n:Nat) (v:Value) (l:List BoxD) (U:World):Prop where
 u:Up w U
 o:Own TBox 69 w.heap.size U v l
 n0:1 ≤ l.length
 n1:l.length ≤ n
 ok:∀ b ∈ l,BOk b
theorem Own.base {α:Type} {T:Rw α} {e:TypeId} {b b':Nat} {w:World} {v:Value} {l:List α} (h:Own T e b w v l) (hb:b' ≤ b):Own T e b' w v l:=by
 obtain ⟨h1,h2⟩:=h
 refine ⟨h1,?_⟩
 rcases h2 with h2 | ⟨g,cap,cur,hv,hg,h3⟩
 · exact .inl h2
 · exact .inr ⟨g,cap,cur,hv,Nat.le_trans hb hg,h3⟩
theorem Lst.nil0 {α:Type} (T:Rw α) (K:Nat → Prop) (w:World) (a:Option Addr) (c:Nat):Lst T K w (.slice a 0 c) []:=⟨a,c,rfl,by simp,fun h=>absurd rfl h⟩
theorem Lst.two {α:Type} {T:Rw α} {w:World} {B:Nat} {e:TypeId} {x y:α} (h:Box w B (T.f x ++ T.f y).toArray e):Lst T (fun _=>True) w (.slice (some ⟨B,0,none⟩) 2 2) [x,y]:=by
 refine ⟨some ⟨B,0,none⟩,2,rfl,by simp,fun _=>⟨B,0,rfl,trivial,h.lt,fun i z hz=>?_⟩⟩
 have hkp:=T.kp
 match i,hz with
 | 0,hz =>
  cases hz
  refine ⟨T.f x,rfl,T.fk x,fun j u hu=>?_⟩
  have hj:=(List.getElem?_eq_some_iff.1 hu).1
  have:=h.cell j (v:=u) (by rw [List.getElem?_toArray,List.getElem?_append_left hj];exact hu)
  simpa using this
 | 1,hz =>
  cases hz
  refine ⟨T.f y,rfl,T.fk y,fun j u hu=>?_⟩
  have:=h.cell (T.k + j) (v:=u) (by rw [List.getElem?_toArray,List.getElem?_append_right (by rw [T.fk];omega),T.fk,Nat.add_sub_cancel_left];exact hu)
  simpa using this
structure CfS (wr:World) (bx bt:Nat) (X Y:BoxD) (vo vr:Value) (l lr:List BoxD) (base:Nat) (U:World):Prop where
 u:Up wr U
 x:Box U bx (boxA X) 69
 y:Box U bt (boxA Y) 69
 o:Own TBox 69 base U vo l
 r:Own TBox 69 wr.heap.size U vr lr
theorem CfS.up {wr:World} {bx bt:Nat} {X Y:BoxD} {vo vr:Value} {l lr:List BoxD} {base:Nat} {U V:World} (h:CfS wr bx bt X Y vo vr l lr base U) (hu:Up U V):CfS wr bx bt X Y vo vr l lr base V:=⟨h.u.trans hu,h.x.up hu,h.y.up hu,h.o.up hu,h.r.up hu⟩
def lenV:Value → Nat
 | .slice _ n _=>n
 | _=>0
theorem CeS.next {w wr V W:World} {n k:Nat} {X Y:BoxD} {v:Value} {l lt lr:List BoxD} (hw:Up w wr) (hv:Up wr V) (hu:Up V W) (hk:k < l.length) (hn:l.length < n) (hok:∀ b ∈ l,BOk b) (hX:BOk X) (hY:BOk Y) (hlt:lt = l.take k) (hlr:lr = l.drop (k + 1)) (ho:Own TBox 69 V.heap.size W v (lt ++ [X,Y] ++ lr)) :
 CeS w n v (lt ++ [X,Y] ++ lr) W ∧ lenV v = l.length + 1:=by
 have hlen:(lt ++ [X,Y] ++ lr).length = l.length + 1:=by
  rw [hlt,hlr]
  simp
  omega
 refine ⟨⟨(hw.trans hv).trans hu,ho.base (hw.trans hv).below.size,by omega,by omega,fun b hb=>?_⟩,?_⟩
 · rcases List.mem_append.1 hb with hb | hb
   · rcases List.mem_append.1 hb with hb | hb
     · rw [hlt] at hb;exact hok b (List.mem_of_mem_take hb)
     · simp at hb
       rcases hb with rfl | rfl
       · exact hX
       · exact hY
   · rw [hlr] at hb;exact hok b (List.mem_of_mem_drop hb)
 · obtain ⟨a,c,rfl⟩:=ho.form
   exact hlen
theorem CeS.up {w U V:World} {n:Nat} {v:Value} {l:List BoxD} (h:CeS w n v l U) (hu:Up U V):CeS w n v l V:=⟨h.u.trans hu,h.o.up hu,h.n0,h.n1,h.ok⟩
end Go.Proofs.YteafglginnonnaaGreat
/- Drifts, spans, areas made of numbers; a sky made of numbers, in a world in which the ring has been asked. Conditions: how often the ring was asked. -/
namespace Go.Proofs.YteafglginnonnaaGreat
set_option linter.unusedVariables false
set_option linter.unusedSimpArgs false
open Go.RowKit
theorem forgetC {P:Program} {f:FuncId} {args:Array Value} {w:World} {R:Ending → World → Prop} (S:World → Prop) (hS:S w) (h:∀ w',S w' → Calls P f args w' R):Calls P f args w R:=h w hS
@[go_sem] theorem field_world (a b c d:Value) (w:World):(Instr.field 29 (.agg #[a,b,c,d]) 0).run Tryz.prog w = .ok (.agg #[a,b]) w:=by kernel_rfl
def RDrift (v:Value):Prop:=∃ l1 l2 h1 h2 g:Int,(0 ≤ l1 ∧ l1 ≤ l2 ∧ l2 ≤ 1000) ∧ (-1000 ≤ h1 ∧ h1 ≤ h2 ∧ h2 ≤ 1000) ∧ (0 ≤ g ∧ g ≤ 3) ∧ v = .agg #[.int .i64 (l1),.int .i64 (l2),.int .i64 (h1),.int .i64 (h2),.int .i64 (g)]
def RSub (a b:Int) (v:Value):Prop:=∃ x y:Int,a ≤ x ∧ x ≤ y ∧ y ≤ b ∧ v = .agg #[.int .i64 x,.int .i64 y]
def RSubA (a b c d:Int) (v:Value):Prop:=∃ x y u v':Int,(a ≤ x ∧ x ≤ y ∧ y ≤ b) ∧ (c ≤ u ∧ u ≤ v' ∧ v' ≤ d) ∧ v = .agg #[.int .i64 (x),.int .i64 (y),.int .i64 (u),.int .i64 (v')]
def RSubD (l1 l2 h1 h2 g:Int) (v:Value):Prop:=∃ a b c d e:Int,(l1 ≤ a ∧ a ≤ b ∧ b ≤ l2) ∧ (h1 ≤ c ∧ c ≤ d ∧ d ≤ h2) ∧ (0 ≤ e ∧ e ≤ g) ∧ v = .agg #[.int .i64 (a),.int .i64 (b),.int .i64 (c),.int .i64 (d),.int .i64 (e)]
end Go.Proofs.YteafglginnonnaaGreat
