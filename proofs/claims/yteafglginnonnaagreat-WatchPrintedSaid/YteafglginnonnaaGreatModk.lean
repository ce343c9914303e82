/- Several texts in one. -/
import Derived.Test.YteafglginnonnaaGreatProg
import Derived.WalkKit
import Derived.WalkLawsBesides
import Derived.Deep.QuietTactic
import Derived.BigQuiet
import Derived.Deep.Light
/- The worlds that a call of a function that only computes leaves behind: some draws, some new blocks; the laws by which a walk reads old cells in them. No conditions. -/
set_option linter.unusedVariables false
set_option linter.unusedSimpArgs false
namespace Go.Proofs.YteafglginnonnaaGreat
open Go.RowKit
theorem hide {p:Prop} (h:p):Hid p:=h
structure Ext where
 n:Nat
 os:Array Obj
 deriving Inhabited
def ext (w:World) (p:Ext):World:={ w with heap:=w.heap++p.os,drawn:=p.n }
def Ext.plus (p q:Ext):Ext:=⟨q.n,p.os++q.os⟩
@[simp,go_sem] theorem ext_ext (w:World) (p q:Ext):ext (ext w p) q=ext w (p.plus q):=by
 simp [ext,Ext.plus,Array.append_assoc]
@[simp,go_sem] theorem ext_drew (w:World) (p:Ext):(ext w p).drew=ext w ⟨p.n+1,p.os⟩:=rfl
@[simp,go_sem] theorem drew_ext (w:World) (p:Ext):ext w.drew p=ext w p:=rfl
@[simp,go_sem] theorem ext_size (w:World) (p:Ext):(ext w p).heap.size=w.heap.size+p.os.size:=by simp [ext]
theorem ext_block (w:World) (p:Ext) {k:Nat} (h:k<w.heap.size):(ext w p).heap[k]?=w.heap[k]?:=by
 simp [ext,Array.getElem?_append,h]
theorem ext_cell (w:World) (p:Ext) (b o:Nat) (h:b<w.heap.size):(ext w p).cell? ⟨b,o,none⟩=w.cell? ⟨b,o,none⟩ :=
 World.cell?_of_block (ext_block w p h)
theorem ext_frozen (w:World) (p:Ext) (b o:Nat) (h:b<w.heap.size):(ext w p).frozen? ⟨b,o,none⟩=w.frozen? ⟨b,o,none⟩ :=
 World.frozen?_of_block (ext_block w p h)
theorem ext_refl (w:World):w=ext w ⟨w.drawn,#[]⟩:=by simp [ext]
theorem ext_one (w:World):w.drew=ext w ⟨w.drawn+1,#[]⟩:=by
 show ({ w with drawn:=w.drawn+1 }:World)={ w with heap:=w.heap++#[],drawn:=w.drawn+1 }
 rw [Array.append_empty]
theorem alloc_ext (w:World) (o:Obj):w.alloc o=ext w ⟨w.drawn,#[o]⟩:=by
 show ({ w with heap:=w.heap.push o }:World)={ w with heap:=w.heap++#[o],drawn:=w.drawn }
 rw [Array.append_singleton]
def Up (w w':World):Prop:=∃ p,w'=ext w p
theorem Up.refl (w:World):Up w w:=⟨_,ext_refl w⟩
theorem Up.drew {a w:World} (h:Up a w):Up a w.drew:=by
 obtain ⟨p,rfl⟩:=h;exact ⟨_,ext_drew _ _⟩
theorem Up.trans {a b c:World} (h:Up a b) (k:Up b c):Up a c:=by
 obtain ⟨p,rfl⟩:=h;obtain ⟨q,rfl⟩:=k;exact ⟨_,ext_ext _ _ _⟩
theorem Up.ext {a w:World} (h:Up a w) (p:Ext):Up a (Go.Proofs.YteafglginnonnaaGreat.ext w p):=h.trans ⟨p,rfl⟩
theorem Up.alloc {a w:World} (h:Up a w) (o:Obj):Up a (w.alloc o):=h.trans ⟨_,alloc_ext w o⟩
theorem Up.plus {a w:World} {p q:Ext} (h:Up a (Go.Proofs.YteafglginnonnaaGreat.ext w p)):Up a (Go.Proofs.YteafglginnonnaaGreat.ext w (p.plus q)):=by rw [← ext_ext];exact h.ext q
theorem Up.setCell {a w:World} (h:Up a w) {q:Addr} (hq:a.heap.size≤q.block) (v:Value):Up a (w.setCell q v):=by
 obtain ⟨p,rfl⟩:=h
 have hm:∀ (f:Obj→Obj),(a.heap++p.os).modify q.block f=a.heap++p.os.modify (q.block - a.heap.size) f:=by
  intro f
  apply Array.ext_getElem?
  intro k
  simp only [Array.getElem?_modify,Array.getElem?_append]
  by_cases hk:k<a.heap.size
  · have:q.block≠k:=by omega
    simp [hk,this]
  · by_cases hik:q.block=k
    · subst hik;simp [hk]
    · have:q.block - a.heap.size≠k - a.heap.size:=by omega
      simp [hk,hik,this]
 exact ⟨⟨p.n,_⟩,by unfold World.setCell Go.Proofs.YteafglginnonnaaGreat.ext;simp only [hm];rfl⟩
theorem Up.below {w w':World} (h:Up w w'):Below w.heap.size w w':=by
 obtain ⟨p,rfl⟩:=h
 exact ⟨rfl,rfl,rfl,by simp,fun k hk=>ext_block w p hk⟩
theorem Up.of_below {w w':World} (h:Below w.heap.size w w'):Up w w':=by
 refine ⟨⟨w'.drawn,(w'.heap.toList.drop w.heap.size).toArray⟩,?_⟩
 have hh:w'.heap=w.heap++(w'.heap.toList.drop w.heap.size).toArray:=by
  apply Array.ext_getElem?
  intro k
  simp only [Array.getElem?_append,List.size_toArray]
  by_cases hk:k<w.heap.size
  · rw [if_pos hk];exact h.block k hk
  · rw [if_neg hk]
    simp
    rw [show w.heap.size+(k - w.heap.size)=k by omega]
 unfold Go.Proofs.YteafglginnonnaaGreat.ext
 have h1:=h.os
 have h2:=h.tape
 have h3:=h.output
 cases w'
 simp only at *
 rw [← hh,h1,h2,h3]
theorem ext_setCell (w:World) (p:Ext) (b o:Nat) (v:Value) (h:b<w.heap.size):(ext w p).setCell ⟨b,o,none⟩ v=ext (w.setCell ⟨b,o,none⟩ v) p:=by
 have hm:∀ (f:Obj→Obj),(w.heap++p.os).modify b f=w.heap.modify b f++p.os:=by
  intro f
  apply Array.ext_getElem?
  intro k
  simp only [Array.getElem?_modify,Array.getElem?_append,Array.size_modify]
  by_cases hk:k<w.heap.size
  · simp [hk]
  · have:b≠k:=by omega
    simp [hk,this]
 unfold World.setCell Go.Proofs.YteafglginnonnaaGreat.ext
 simp only [hm]
def farCell (w:World) (n i:Nat):Option Value:=w.cell? ⟨n,i,none⟩
def farFrozen (w:World) (n i:Nat):Bool:=w.frozen? ⟨n,i,none⟩
def farSet (w:World) (n i:Nat) (v:Value):World:=w.setCell ⟨n,i,none⟩ v
def newCell (w:World) (o:Obj) (n i:Nat):Option Value:=(w.alloc o).cell? ⟨n,i,none⟩
def newFrozen (w:World) (o:Obj) (n i:Nat):Bool:=(w.alloc o).frozen? ⟨n,i,none⟩
def newSet (w:World) (o:Obj) (n i:Nat) (v:Value):World:=(w.alloc o).setCell ⟨n,i,none⟩ v
@[go_sem] theorem ext_cell_if (w:World) (p:Ext) (n i:Nat):(ext w p).cell? ⟨n,i,none⟩=if n<w.heap.size then w.cell? ⟨n,i,none⟩ else farCell (ext w p) n i:=by
 split
 · rename_i h;exact ext_cell w p n i h
 · rfl
@[go_sem] theorem ext_frozen_if (w:World) (p:Ext) (n i:Nat):(ext w p).frozen? ⟨n,i,none⟩=if n<w.heap.size then w.frozen? ⟨n,i,none⟩ else farFrozen (ext w p) n i:=by
 split
 · rename_i h;exact ext_frozen w p n i h
 · rfl
@[go_sem] theorem ext_set_if (w:World) (p:Ext) (n i:Nat) (v:Value):(ext w p).setCell ⟨n,i,none⟩ v=if n<w.heap.size then ext (w.setCell ⟨n,i,none⟩ v) p else farSet (ext w p) n i v:=by
 split
 · rename_i h;exact ext_setCell w p n i v h
 · rfl
theorem alloc_cell_if (w:World) (o:Obj) (n i:Nat):(w.alloc o).cell? ⟨n,i,none⟩=if n<w.heap.size then w.cell? ⟨n,i,none⟩ else newCell w o n i:=by
 split
 · rename_i h;exact World.cell?_alloc_past o n i h
 · rfl
theorem alloc_frozen_if (w:World) (o:Obj) (n i:Nat):(w.alloc o).frozen? ⟨n,i,none⟩=if n<w.heap.size then w.frozen? ⟨n,i,none⟩ else newFrozen w o n i:=by
 split
 · rename_i h;exact World.frozen?_alloc_past o n i h
 · rfl
theorem alloc_set_if (w:World) (o:Obj) (n i:Nat) (v:Value):(w.alloc o).setCell ⟨n,i,none⟩ v=if n<w.heap.size then (w.setCell ⟨n,i,none⟩ v).alloc o else newSet w o n i v:=by
 split
 · rename_i h;exact World.setCell_alloc_past o n i v h
 · rfl
theorem heap_new (w:World) (o:Obj):(w.alloc o).heap[w.heap.size]?=some o:=by
 show (w.heap.push o)[w.heap.size]?=some o
 simp
@[go_sem] theorem newCell_if (w:World) (c:Array Value) (t:TypeId) (n i:Nat):newCell w (.cells c t (0,0)) n i=if n=w.heap.size then c[i]? else farCell (w.alloc (.cells c t (0,0))) n i:=by
 split
 · rename_i h;subst h
   unfold newCell World.cell?
   rw [show (w.alloc (.cells c t (0,0))).heap[(⟨w.heap.size,i,none⟩:Addr).block]?=some (.cells c t (0,0)) from heap_new w _]
   simp
 · rfl
@[go_sem] theorem newFrozen_if (w:World) (c:Array Value) (t:TypeId) (n i:Nat):newFrozen w (.cells c t (0,0)) n i=if n=w.heap.size then false else farFrozen (w.alloc (.cells c t (0,0))) n i:=by
 split
 · rename_i h;subst h
   unfold newFrozen World.frozen?
   rw [show (w.alloc (.cells c t (0,0))).heap[(⟨w.heap.size,i,none⟩:Addr).block]?=some (.cells c t (0,0)) from heap_new w _]
   simp
 · rfl
@[go_sem] theorem newSet_if (w:World) (c:Array Value) (t:TypeId) (n i:Nat) (v:Value):newSet w (.cells c t (0,0)) n i v=if n=w.heap.size then w.alloc (.cells (c.setIfInBounds i v) t (0,0)) else farSet (w.alloc (.cells c t (0,0))) n i v:=by
 split
 · rename_i h;exact World.setCell_alloc_at c t n i v h
 · rfl
@[go_sem] theorem grown_cell1 (w:World) (p:Ext) (o1:Obj) (n i:Nat):((ext w p).alloc o1).cell? ⟨n,i,none⟩=if n<w.heap.size+p.os.size then (ext w p).cell? ⟨n,i,none⟩ else newCell (ext w p) o1 n i:=by
 rw [alloc_cell_if _ _ _ _];simp only [World.size_alloc,ext_size]
@[go_sem] theorem grown_frozen1 (w:World) (p:Ext) (o1:Obj) (n i:Nat):((ext w p).alloc o1).frozen? ⟨n,i,none⟩=if n<w.heap.size+p.os.size then (ext w p).frozen? ⟨n,i,none⟩ else newFrozen (ext w p) o1 n i:=by
 rw [alloc_frozen_if _ _ _ _];simp only [World.size_alloc,ext_size]
@[go_sem] theorem grown_set1 (w:World) (p:Ext) (o1:Obj) (n i:Nat) (v:Value):((ext w p).alloc o1).setCell ⟨n,i,none⟩ v=if n<w.heap.size+p.os.size then ((ext w p).setCell ⟨n,i,none⟩ v).alloc o1 else newSet (ext w p) o1 n i v:=by
 rw [alloc_set_if _ _ _ _ _];simp only [World.size_alloc,ext_size]
@[go_sem] theorem grown_cell2 (w:World) (p:Ext) (o1 o2:Obj) (n i:Nat):(((ext w p).alloc o1).alloc o2).cell? ⟨n,i,none⟩=if n<w.heap.size+p.os.size+1 then ((ext w p).alloc o1).cell? ⟨n,i,none⟩ else newCell ((ext w p).alloc o1) o2 n i:=by
 rw [alloc_cell_if _ _ _ _];simp only [World.size_alloc,ext_size]
@[go_sem] theorem grown_frozen2 (w:World) (p:Ext) (o1 o2:Obj) (n i:Nat):(((ext w p).alloc o1).alloc o2).frozen? ⟨n,i,none⟩=if n<w.heap.size+p.os.size+1 then ((ext w p).alloc o1).frozen? ⟨n,i,none⟩ else newFrozen ((ext w p).alloc o1) o2 n i:=by
 rw [alloc_frozen_if _ _ _ _];simp only [World.size_alloc,ext_size]
@[go_sem] theorem grown_set2 (w:World) (p:Ext) (o1 o2:Obj) (n i:Nat) (v:Value):(((ext w p).alloc o1).alloc o2).setCell ⟨n,i,none⟩ v=if n<w.heap.size+p.os.size+1 then (((ext w p).alloc o1).setCell ⟨n,i,none⟩ v).alloc o2 else newSet ((ext w p).alloc o1) o2 n i v:=by
 rw [alloc_set_if _ _ _ _ _];simp only [World.size_alloc,ext_size]
@[go_sem] theorem grown_cell3 (w:World) (p:Ext) (o1 o2 o3:Obj) (n i:Nat):((((ext w p).alloc o1).alloc o2).alloc o3).cell? ⟨n,i,none⟩=if n<w.heap.size+p.os.size+1+1 then (((ext w p).alloc o1).alloc o2).cell? ⟨n,i,none⟩ else newCell (((ext w p).alloc o1).alloc o2) o3 n i:=by
 rw [alloc_cell_if _ _ _ _];simp only [World.size_alloc,ext_size]
@[go_sem] theorem grown_frozen3 (w:World) (p:Ext) (o1 o2 o3:Obj) (n i:Nat):((((ext w p).alloc o1).alloc o2).alloc o3).frozen? ⟨n,i,none⟩=if n<w.heap.size+p.os.size+1+1 then (((ext w p).alloc o1).alloc o2).frozen? ⟨n,i,none⟩ else newFrozen (((ext w p).alloc o1).alloc o2) o3 n i:=by
 rw [alloc_frozen_if _ _ _ _];simp only [World.size_alloc,ext_size]
@[go_sem] theorem grown_set3 (w:World) (p:Ext) (o1 o2 o3:Obj) (n i:Nat) (v:Value):((((ext w p).alloc o1).alloc o2).alloc o3).setCell ⟨n,i,none⟩ v=if n<w.heap.size+p.os.size+1+1 then ((((ext w p).alloc o1).alloc o2).setCell ⟨n,i,none⟩ v).alloc o3 else newSet (((ext w p).alloc o1).alloc o2) o3 n i v:=by
 rw [alloc_set_if _ _ _ _ _];simp only [World.size_alloc,ext_size]
@[go_sem] theorem grown_cell4 (w:World) (p:Ext) (o1 o2 o3 o4:Obj) (n i:Nat):(((((ext w p).alloc o1).alloc o2).alloc o3).alloc o4).cell? ⟨n,i,none⟩=if n<w.heap.size+p.os.size+1+1+1 then ((((ext w p).alloc o1).alloc o2).alloc o3).cell? ⟨n,i,none⟩ else newCell ((((ext w p).alloc o1).alloc o2).alloc o3) o4 n i:=by
 rw [alloc_cell_if _ _ _ _];simp only [World.size_alloc,ext_size]
@[go_sem] theorem grown_frozen4 (w:World) (p:Ext) (o1 o2 o3 o4:Obj) (n i:Nat):(((((ext w p).alloc o1).alloc o2).alloc o3).alloc o4).frozen? ⟨n,i,none⟩=if n<w.heap.size+p.os.size+1+1+1 then ((((ext w p).alloc o1).alloc o2).alloc o3).frozen? ⟨n,i,none⟩ else newFrozen ((((ext w p).alloc o1).alloc o2).alloc o3) o4 n i:=by
 rw [alloc_frozen_if _ _ _ _];simp only [World.size_alloc,ext_size]
@[go_sem] theorem grown_set4 (w:World) (p:Ext) (o1 o2 o3 o4:Obj) (n i:Nat) (v:Value):(((((ext w p).alloc o1).alloc o2).alloc o3).alloc o4).setCell ⟨n,i,none⟩ v=if n<w.heap.size+p.os.size+1+1+1 then (((((ext w p).alloc o1).alloc o2).alloc o3).setCell ⟨n,i,none⟩ v).alloc o4 else newSet ((((ext w p).alloc o1).alloc o2).alloc o3) o4 n i v:=by
 rw [alloc_set_if _ _ _ _ _];simp only [World.size_alloc,ext_size]
def Gives (P:Program) (f:FuncId) (args:Array Value) (w:World) (v:Value):Prop:=Calls P f args w fun e w'=>e=.returned v∧Up w w'
theorem Gives.mono {P:Program} {f:FuncId} {args:Array Value} {w:World} {v:Value} (h:Gives P f args w v) {R:Ending→World→Prop}
 (hR:∀ p,R (.returned v) (ext w p)):Calls P f args w R :=
 Calls.mono h fun e w' ⟨he,p,hp⟩=>by subst he;subst hp;exact hR p
theorem ret_bool {a b:Bool} (h:a=b):Ending.returned (.bool a)=.returned (.bool b):=by rw [h]
theorem ret_int {k:IntKind} {a b:Int} (h:a=b):Ending.returned (.int k a)=.returned (.int k b):=by rw [h]
theorem bodyPost_give {P:Program} {fn:Func} {a:Act} {w0 w:World} {V:Value} (hu:Up w0 w) (hd:a.defers=[]) (hr:∃ v,(results fn a.tmps).run P w=.ok v w∧v=V) :
 bodyPost P fn (fun e w'=>e=.returned V∧Up w0 w') .ret a w :=
 let ⟨_,h,hv⟩:=hr
 bodyPost_ret h hd ⟨by rw [hv],hu⟩
@[go_sem] theorem ite_min (x y:Int):(if y<x then y else x)=min x y:=by omega
@[go_sem] theorem ite_max (x y:Int):(if x<y then y else x)=max x y:=by omega
theorem wp_region_ext {P:Program} {id:Nat} {Q:Exit→Act→World→Prop} {a:Act} {w:World} {l:List Oper} (hm:P.follows .mixedOrders=true) (hB:Region.lexB .any l.toArray=true)
 (h:wpQuiet P l.toArray (fun w'=>∃ p:Ext,w'=ext w p) (fun a'=>∀ w',(∃ p:Ext,w'=ext w p)→Q .normal a' w') l a):(Code.region id l.toArray true).wp P Q a w :=
 wp_region_quiet (C:=fun w'=>∃ p:Ext,w'=ext w p) hm hB ⟨⟨w.drawn+1,#[]⟩,ext_one w⟩ (by simpa using h)
theorem wp_region_ext2 {P:Program} {id:Nat} {Q:Exit→Act→World→Prop} {a:Act} {w:World} {p0:Ext} {l:List Oper} (hm:P.follows .mixedOrders=true) (hB:Region.lexB .any l.toArray=true)
 (h:wpQuiet P l.toArray (fun w'=>∃ p:Ext,w'=ext w p) (fun a'=>∀ w',(∃ p:Ext,w'=ext w p)→Q .normal a' w') l a):(Code.region id l.toArray true).wp P Q a (ext w p0) :=
 wp_region_quiet (C:=fun w'=>∃ p:Ext,w'=ext w p) hm hB ⟨⟨p0.n+1,p0.os⟩,ext_drew w p0⟩ (by simpa using h)
theorem Gives.inRegion {P:Program} {f:FuncId} {args:Array Value} {w:World} {p:Ext} {v:Value} (h:Gives P f args (ext w p) v) :
 Calls P f args (ext w p) fun e w''=>e=.returned v∧∃ q:Ext,w''=ext w q :=
 Calls.mono h fun _ _ ⟨he,q,hq⟩=>⟨he,p.plus q,by rw [hq,ext_ext]⟩
theorem Up.go {w W:World} (h:Up w W:=by repeat (first|with_reducible exact Up.refl _|with_reducible apply Up.plus|apply Up.ext|apply Up.alloc|apply Up.drew|(refine Up.setCell ?_ (by simp;try omega) _))):Up w W:=h
theorem Up.via {w V W:World} (h:Up w V) (f:Up w V→Up w W:=by intro hup;repeat (first|with_reducible exact hup|with_reducible exact Up.refl _|apply Up.ext|apply Up.alloc|apply Up.drew|(refine Up.setCell ?_ (by simp [World.setCell];try omega) _))):Up w W:=f h
theorem Up.viz {w V W:World} (h:Up w V) (f:Up w V→Up w W:=by intro hup;with_reducible repeat (first|exact hup|exact Up.refl _|apply Up.ext|apply Up.alloc|apply Up.drew|refine Up.setCell ?_ (by simp only;omega) _)):Up w W:=f h
theorem tmod_neg (n m:Int) (hn:n<0) (hm:0<m):n.tmod m≤0 ∧ -m<n.tmod m∧n % m=if n.tmod m<0 then n.tmod m+m else n.tmod m:=by
 have h1:n.tmod m≤0:=by
  have:=Int.tmod_nonneg (a:=-n) m (by omega)
  rw [Int.neg_tmod] at this;omega
 have h2:-m<n.tmod m:=by
  have:=Int.lt_tmod_of_pos n hm
  omega
 refine ⟨h1,h2,?_⟩
 have h3:=Int.mul_tdiv_add_tmod n m
 have h4:=Int.mul_ediv_add_emod n m
 have h5:=Int.emod_nonneg n (show m≠0 by omega)
 have h6:=Int.emod_lt_of_pos n hm
 generalize n.tmod m=t at *
 generalize n % m=e at *
 generalize n.tdiv m=q at *
 generalize n / m=r at *
 have h7:m*(q - r)=e - t:=by rw [Int.mul_sub];omega
 have h8:q - r=0∨q - r=1:=by
  have a1:q - r<2:=by
   apply Int.lt_of_mul_lt_mul_left (a:=m) _ (by omega)
   omega
  have a2:-1<q - r:=by
   apply Int.lt_of_mul_lt_mul_left (a:=m) _ (by omega)
   omega
  omega
 rcases h8 with h8 | h8 <;> rw [h8] at h7 <;> split <;> omega
theorem mod64_any (n m:Int) (n0:-9223372036854775808≤n) (n1:n≤9223372036854775807) (m0:0<m) (m1:m≤9223372036854775807) (w:World) :
 Gives Tryz.prog 120 #[.int .i64 n,.int .i64 m] w (.int .i64 (n % m)):=by
 by_cases hn:n<0
 · obtain ⟨h1,h2,h3⟩:=tmod_neg n m hn m0
   have H3:=hide h3
   clear h3
   (unfold Gives;go_enter Tryz.func120,Tryz.ntmps120)
   go_wp2
   all_goals (go_ret;refine ⟨ret_int ?_,Up.go⟩)
   all_goals (have h3:=H3.out;(first|rw [if_pos (by omega)] at h3|rw [if_neg (by omega)] at h3);omega)
 · have h1:=Int.emod_nonneg n (show m≠0 by omega)
   have h2:=Int.emod_lt_of_pos n m0
   (unfold Gives;go_enter Tryz.func120,Tryz.ntmps120)
   go_wp2
   all_goals (go_ret;refine ⟨ret_int ?_,Up.go⟩)
   all_goals rfl
end Go.Proofs.YteafglginnonnaaGreat
