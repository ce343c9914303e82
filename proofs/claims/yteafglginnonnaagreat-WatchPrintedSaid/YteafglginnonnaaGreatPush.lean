/- Lists whose elements are rows of plain cells: one element more, a copy; how they lie behind it. Conditions: what lies in memory. -/
import Derived.Test.YteafglginnonnaaGreatOwn
import Derived.Deep.Upon
set_option linter.unusedVariables false
set_option linter.unusedSimpArgs false
namespace Go.Proofs.YteafglginnonnaaGreat
open Go.RowKit Go.Shelf
structure Rw (α:Type) where
 k:Nat
 f:α→List Value
 kp:0<k
 fk:∀ x,(f x).length=k
 one:∀ x,∀ u∈f x,u.oneCell'=true
def Rw.r {α:Type} (T:Rw α) (_:World) (x:α) (vs:List Value):Prop:=vs=T.f x
abbrev Lst {α:Type} (T:Rw α) (K:Nat→Prop):=Lies K T.k T.r
def Rw.flat {α:Type} (T:Rw α) (l:List α):List Value:=(l.map T.f).flatten
theorem Rw.flat_len {α:Type} (T:Rw α) (l:List α):(T.flat l).length=l.length*T.k:=by
 unfold Rw.flat
 induction l with
 | nil=>simp
 | cons p tr ih=>rw [List.map_cons,List.flatten_cons,List.length_append,T.fk,ih,List.length_cons,Nat.succ_mul];omega
theorem Rw.flat_one {α:Type} (T:Rw α) (l:List α):∀ u∈T.flat l,u.oneCell'=true:=fun u hu=>by
 unfold Rw.flat at hu
 obtain ⟨m,hm,hu⟩:=List.mem_flatten.1 hu
 obtain ⟨p,_,rfl⟩:=List.mem_map.1 hm
 exact T.one p u hu
theorem Rw.flat_snoc {α:Type} (T:Rw α) (l:List α) (x:α):T.flat (l++[x])=T.flat l++T.f x:=by
 unfold Rw.flat
 simp
theorem Rw.row {α:Type} (T:Rw α) (w:World) (l:List α):RowOf T.k (T.r w) l (T.flat l) :=
 ⟨l.map T.f,rfl,by simp,fun i x hx=>⟨T.f x,by simp [hx],rfl,T.fk x⟩⟩
theorem Rw.flat_at {α:Type} (T:Rw α) {l:List α} {i j:Nat} {x:α} {u:Value} (hx:l[i]?=some x) (hu:(T.f x)[j]?=some u):(T.flat l)[i*T.k+j]?=some u:=by
 obtain ⟨vs,h1,_,h3⟩:=(T.row (default:World) l).cell hx
 rw [show vs=T.f x from h1] at h3
 exact h3 j u hu
theorem Lst.keeps {α:Type} {T:Rw α} {K:Nat→Prop} {w w':World} {v:Value} {l:List α} (h:Lst T K w v l) (hk:Keeps K w w'):Lst T K w' v l:=Lies.keeps h hk fun _ _ h=>h
theorem Lst.mono {α:Type} {T:Rw α} {K K':Nat→Prop} {w:World} {v:Value} {l:List α} (h:Lst T K w v l) (hK:∀ b,b<w.heap.size→K b→K' b):Lst T K' w v l:=Lies.mono h hK fun _ _ h=>h
theorem Lst.up {α:Type} {T:Rw α} {K:Nat→Prop} {w w':World} {v:Value} {l:List α} (h:Lst T K w v l) (hu:Up w w'):Lst T K w' v l:=h.keeps (hu.keeps K)
theorem add_plain0 (b o j:Nat):(⟨b,o,none⟩:Addr).add j=⟨b,o+j,none⟩:=by
 unfold Addr.add
 split
 · rename_i h;subst h;rfl
 · rfl
theorem Lst.news {α:Type} {T:Rw α} {K:Nat→Prop} {w:World} {b o n c:Nat} {l:List α} (h:Lst T K w (.slice (some ⟨b,o,none⟩) n c) l):∀ j u,(T.flat l)[j]?=some u→w.cell? ((⟨b,o,none⟩:Addr).add j)=some u:=fun j u hu=>by
 have hj:j<l.length*T.k:=by rw [← T.flat_len];exact (List.getElem?_eq_some_iff.1 hu).1
 have hkp:=T.kp
 have hi:j / T.k<l.length:=(Nat.div_lt_iff_lt_mul hkp).2 hj
 obtain ⟨a',c',h1,_,h3⟩:=h
 simp at h1
 obtain ⟨rfl,_,rfl⟩:=h1
 obtain ⟨b',o',e,_,_,hc⟩:=h3 (by intro e;subst e;simp at hi)
 cases e
 obtain ⟨x,hxl⟩:∃ x,l[j / T.k]?=some x:=⟨_,List.getElem?_eq_getElem hi⟩
 obtain ⟨vs,hvs,hl,hx⟩:=hc (j / T.k) x hxl
 obtain rfl:vs=T.f x:=hvs
 have hmod:=Nat.mod_lt j hkp
 have ej:j / T.k*T.k+j % T.k=j:=by rw [Nat.mul_comm];exact Nat.div_add_mod j T.k
 obtain ⟨u',hu'⟩:∃ u',(T.f x)[j % T.k]?=some u':=⟨_,List.getElem?_eq_getElem (by rw [T.fk];exact hmod)⟩
 have h5:=T.flat_at hxl hu'
 rw [ej,hu] at h5
 cases h5
 rw [add_plain0,← ej,← Nat.add_assoc]
 exact hx _ _ hu'
def Own {α:Type} (T:Rw α) (e:TypeId) (base:Nat) (w:World) (v:Value) (l:List α):Prop:=w.ownsRow base e T.k v l.length (T.flat l)
theorem Own.nil {α:Type} (T:Rw α) (e:TypeId) (base:Nat) (w:World):Own T e base w (.slice none 0 0) []:=World.ownsRow_nil _ _ _ _
theorem Own.lt {α:Type} {T:Rw α} {e:TypeId} {base:Nat} {w:World} {v:Value} {l:List α} (h:Own T e base w v l):∀ g,v.ownBlock=some g→base≤g∧g<w.heap.size:=fun g hg=>World.ownsRow.lt h g hg
theorem Own.up {α:Type} {T:Rw α} {e:TypeId} {base:Nat} {w w':World} {v:Value} {l:List α} (h:Own T e base w v l) (hu:Up w w'):Own T e base w' v l :=
 ownsRow_keeps h (hu.keeps fun _=>True) fun _ _=>trivial
theorem Own.set {α:Type} {T:Rw α} {e:TypeId} {base:Nat} {w:World} {v:Value} {l:List α} (h:Own T e base w v l) {b:Nat} (hb:v.ownBlock≠some b) (i:Nat) (x:Value):Own T e base (w.setCell ⟨b,i,none⟩ x) v l :=
 ownsRow_keeps (K:=fun g=>v.ownBlock=some g) h ((Keeps.refl _ w).set (fun e=>hb e) i x) fun _ e=>e
theorem Own.lies {α:Type} {T:Rw α} {e:TypeId} {base:Nat} {w:World} {v:Value} {l:List α} (h:Own T e base w v l) (hm:l.length≤9223372036854775807):Lst T (fun b=>base≤b) w v l :=
 Lies.ofRow h (T.row w l) (fun g hg=>(h.lt g hg).1) hm
theorem Own.form {α:Type} {T:Rw α} {e:TypeId} {base:Nat} {w:World} {v:Value} {l:List α} (h:Own T e base w v l):∃ a c,v=.slice a l.length c:=by
 rcases h.2 with ⟨rfl,h0⟩ | ⟨g,cap,cur,hv,_⟩
 · exact ⟨none,0,by rw [h0]⟩
 · exact ⟨_,_,hv⟩
section
variable {P:Program} {ops:Array Oper} {rest:List Oper} {o:Oper} {a:Act} {Q:Exit→Act→World→Prop}
structure ElemOk (P:Program) {α:Type} (T:Rw α) (t e:TypeId) (bytes:Nat):Prop where
 under:P.underlying t=some (.slice e)
 info:∃ i z,P.info? e=some i∧i.zero=some z∧i.size=T.k∧i.bytes=bytes∧z.cells.size=T.k
theorem wpList_push {α:Type} {T:Rw α} {t e:TypeId} {bytes:Nat} (hE:ElemOk P T t e bytes) (hgd:o.guard=none) (s x:Operand) (ho:o.op=.call { callee:=.builtin .append,args:=#[s,x],argTypes:=#[t,t] })
 {w0 W:World} (hu:Up w0 W) {base:Nat} (hb0:w0.heap.size≤base) (hbW:base≤W.heap.size) {v:Value} {l:List α} (hs:a.eval s=v) (hown:Own T e base W v l) (hn:l.length≤100000) (hby:bytes≤1000) (p:α) {B:Nat} (hx:a.eval x=.slice (some ⟨B,0,none⟩) 1 1) (hB:Box W B (T.f p).toArray e)
 (h:∀ g cap W',Up w0 W'→Own T e base W' (.slice (some ⟨g,0,none⟩) (l.length+1) cap) (l++[p])→(∀ b c T,v.ownBlock≠some b→Box W b c T→Box W' b c T)→wpList P ops Q rest (a.put o.dst (.slice (some ⟨g,0,none⟩) (l.length+1) cap)) W'):wpList P ops Q (o::rest) a W:=by
 obtain ⟨i,z,h1,h2,h3,h4,h5⟩:=hE.info
 refine wpList_append_lies _ hgd s x t ho base e i z T.k bytes hE.under h1 h2 h3 h4 h5 T.kp v l.length (T.flat l) hs hown ⟨B,0,none⟩ 1 1 (T.f p) hx (by rw [T.fk,Nat.one_mul]) ?_ (T.one p) (by decide) (by unfold maxLen;omega) ?_ hbW _ rfl ?_
 · intro j u hu
   rw [add_plain0,Nat.zero_add]
   exact hB.cell j (by rw [List.getElem?_toArray];exact hu)
 · have:(l.length+1)*bytes≤100001*1000:=Nat.mul_le_mul (by omega) hby
   omega
 · intro g cap w' hown' hgrow hat hlt
   refine h g cap w' (.of_below (hu.below.grown hgrow hu.below.size (fun k e=>by have:=hown.lt k e;omega))) ?_ (fun b c T hne hb=>hb.grown hgrow (fun e=>hne (by simpa using e)))
   unfold Own
   rw [List.length_append,List.length_singleton,T.flat_snoc]
   exact hown'
theorem wpList_copy {α:Type} {T:Rw α} {t e:TypeId} {bytes:Nat} (hE:ElemOk P T t e bytes) (hgd:o.guard=none) (s x:Operand) (ho:o.op=.call { callee:=.builtin .append,args:=#[s,x],argTypes:=#[t,t] })
 {w0 W:World} (hu:Up w0 W) {K:Nat→Prop} {l:List α} {Z n c:Nat} {ta:Option Addr} (hs:a.eval s=.slice (some ⟨Z,0,none⟩) 0 0) (hZ:Box W Z #[] e) (hZ0:w0.heap.size≤Z) (hx:a.eval x=.slice ta n c) (hL:Lst T K W (.slice ta n c) l) (hn:l.length≤100000) (hby:bytes≤1000)
 (h:∀ g cap W',Up w0 W'→Own T e w0.heap.size W' (.slice (some ⟨g,0,none⟩) l.length cap) l→(∀ b c T,b≠Z→Box W b c T→Box W' b c T)→wpList P ops Q rest (a.put o.dst (.slice (some ⟨g,0,none⟩) l.length cap)) W'):wpList P ops Q (o::rest) a W:=by
 obtain ⟨i,z,h1,h2,h3,h4,h5⟩:=hE.info
 have hsz:=hu.below.size
 have hE0:W.ownsRow w0.heap.size e T.k (.slice (some ⟨Z,0,none⟩) 0 0) 0 []:=⟨by simp,.inr ⟨Z,0,#[],rfl,hZ0,hZ,Nat.le_refl _,Nat.zero_le _,by simp,by simp⟩⟩
 have hl:n=l.length:=by
  obtain ⟨a',c',e1,_⟩:=hL
  simp at e1
  exact e1.2.1
 subst hl
 by_cases h0:l=[]
 · subst h0
   have hsrc:Src P i.size t (.slice ta 0 c) 0 [] W:=by
    cases ta with
    | none=>exact Src.ofNil W hE.under c
    | some ad=>exact Src.ofSlice W hE.under ad 0 c [] (by simp) (fun j u hj=>by simp at hj) (fun _ h=>by cases h)
   have hr:=run_append_nothing (P:=P) W t t o.type e i hE.under h1 (some ⟨Z,0,none⟩) 0 0 (Nat.le_refl _) (.slice ta 0 c) hsrc
   refine wpList_plain hgd fun K' hK=>?_
   unfold Oper.wp execOp
   simp only [ho,resolve,invoke,builtin,Sem.run_bind,Sem.run_pure,Result.andThen_ok,List.map_toArray,List.map_cons,List.map_nil,hs,hx]
   simp only [List.length_nil] at *
   simp only [hr]
   exact hK _ _ (h Z 0 W hu (by exact hE0) (fun _ _ _ _ h=>h))
 · obtain ⟨a',c',e1,hm,h3'⟩:=hL
   obtain ⟨b,o',rfl,_⟩:=h3' h0
   simp at e1
   obtain ⟨rfl,rfl⟩:=e1
   have hL2:Lst T K W (.slice (some ⟨b,o',none⟩) l.length c) l:=⟨_,_,rfl,hm,h3'⟩
   have hpos:0<l.length:=List.length_pos_iff.2 h0
   refine wpList_append_lies _ hgd s x t ho w0.heap.size e i z T.k bytes hE.under h1 h2 h3 h4 h5 T.kp (.slice (some ⟨Z,0,none⟩) 0 0) 0 [] hs hE0 ⟨b,o',none⟩ l.length c (T.flat l) hx (T.flat_len l) hL2.news (T.flat_one l) hpos (by unfold maxLen;omega) ?_ hsz _ rfl ?_
   · have:(0+l.length)*bytes≤100001*1000:=Nat.mul_le_mul (by omega) hby
     omega
   · intro g cap w' hown' hgrow hat hlt
     rw [List.nil_append,Nat.zero_add] at hown'
     rw [Nat.zero_add]
     exact h g cap w' (.of_below (hu.below.grown hgrow hsz (fun k e=>by simp [Value.ownBlock] at e;omega))) hown' (fun b c T hne hb=>hb.grown hgrow (fun e=>by simp [Value.ownBlock] at e;exact hne e.symm))
end
end Go.Proofs.YteafglginnonnaaGreat
