/- How worlds and skies lie in memory, and how those that came in read. No conditions. -/
import Derived.Test.YteafglginnonnaaGreatSkyP
import Derived.Test.YteafglginnonnaaGreatPostb
import Derived.Test.YteafglginnonnaaGreatBox
import Derived.Deep.Slices
import Derived.ChangeArms
import Derived.Carry
set_option linter.unusedVariables false
set_option linter.unusedSimpArgs false
namespace Go.Proofs.YteafglginnonnaaGreat
open Go.RowKit Go.ChangeShapes Go.WideShapes
def I64 (x:Int):Prop:=-9223372036854775808≤x∧x≤9223372036854775807
def Lies {α:Type} (K:Nat→Prop) (k:Nat) (R:World→α→List Value→Prop) (w:World) (v:Value) (l:List α):Prop :=
 ∃ (a:Option Addr) (c:Nat),v=.slice a l.length c∧l.length≤9223372036854775807 ∧
  (l≠[]→∃ b o,a=some ⟨b,o,none⟩∧K b∧b<w.heap.size∧∀ i x,l[i]?=some x→∃ vs,R w x vs∧vs.length=k∧∀ j u,vs[j]?=some u→w.cell? ⟨b,o+i*k+j,none⟩=some u)
def Keeps (K:Nat→Prop) (w w':World):Prop:=w.heap.size≤w'.heap.size∧∀ b,K b→b<w.heap.size→w'.heap[b]?=w.heap[b]?
theorem Keeps.refl (K:Nat→Prop) (w:World):Keeps K w w:=⟨Nat.le_refl _,fun _ _ _=>rfl⟩
theorem Keeps.trans {K:Nat→Prop} {a b c:World} (h:Keeps K a b) (h':Keeps K b c):Keeps K a c :=
 ⟨Nat.le_trans h.1 h'.1,fun x hx hl=>(h'.2 x hx (Nat.lt_of_lt_of_le hl h.1)).trans (h.2 x hx hl)⟩
theorem Up.keeps {w w':World} (h:Up w w') (K:Nat→Prop):Keeps K w w':=⟨h.below.size,fun b _ hb=>h.below.block b hb⟩
theorem Keeps.grown {K:Nat→Prop} {w w':World} {B:Nat} (h:w.grownBy w' (some B)) (hK:∀ b,K b→b≠B):Keeps K w w':=⟨h.size,fun b hb hl=>h.block b hl (fun e=>hK b hb (Option.some.inj e))⟩
theorem Lies.keeps {α:Type} {K:Nat→Prop} {k:Nat} {R R':World→α→List Value→Prop} {w w':World} {v:Value} {l:List α} (h:Lies K k R w v l) (hk:Keeps K w w') (hR:∀ x vs,R w x vs→R' w' x vs):Lies K k R' w' v l:=by
 obtain ⟨a,c,rfl,hl,hc⟩:=h
 refine ⟨a,c,rfl,hl,fun hne=>?_⟩
 obtain ⟨b,o,rfl,hK,hb,hi⟩:=hc hne
 refine ⟨b,o,rfl,hK,Nat.lt_of_lt_of_le hb hk.1,fun i x hx=>?_⟩
 obtain ⟨vs,h1,h2,h3⟩:=hi i x hx
 exact ⟨vs,hR x vs h1,h2,fun j u hu=>(World.cell?_of_block (a:=⟨b,o+i*k+j,none⟩) (hk.2 b hK hb)).trans (h3 j u hu)⟩
theorem Lies.mono {α:Type} {K K':Nat→Prop} {k:Nat} {R R':World→α→List Value→Prop} {w:World} {v:Value} {l:List α} (h:Lies K k R w v l) (hK:∀ b,b<w.heap.size→K b→K' b) (hR:∀ x vs,R w x vs→R' w x vs):Lies K' k R' w v l:=by
 obtain ⟨a,c,rfl,hl,hc⟩:=h
 refine ⟨a,c,rfl,hl,fun hne=>?_⟩
 obtain ⟨b,o,rfl,hk,hb,hi⟩:=hc hne
 exact ⟨b,o,rfl,hK b hb hk,hb,fun i x hx=>let ⟨vs,h1,h2⟩:=hi i x hx;⟨vs,hR x vs h1,h2⟩⟩
theorem Lies.nil {α:Type} (K:Nat→Prop) (k:Nat) (R:World→α→List Value→Prop) (w:World) (a:Option Addr) (c:Nat):Lies K k R w (.slice a 0 c) []:=⟨a,c,rfl,by simp,fun h=>absurd rfl h⟩
def RTwo (_:World) (p:Int×Int) (vs:List Value):Prop:=vs=[.int .i64 p.1,.int .i64 p.2]∧I64 p.1∧I64 p.2
def RTri (_:World) (p:Int×Int×Int) (vs:List Value):Prop:=vs=[.int .i64 p.1,.int .i64 p.2.1,.int .i64 p.2.2]∧I64 p.1∧I64 p.2.1∧I64 p.2.2
abbrev Vecs (K:Nat→Prop):=Lies K 2 RTwo
abbrev Tris (K:Nat→Prop):=Lies K 3 RTri
def RBod (K:Nat→Prop) (w:World) (b:Bod) (vs:List Value):Prop:=∃ tv,vs=[.int .i64 b.mu,.int .i64 b.radius,tv]∧I64 b.mu∧I64 b.radius∧Vecs K w tv b.track
abbrev Bods (K:Nat→Prop):=Lies K 3 (RBod K)
def WorldIn (K:Nat→Prop) (w:World) (v:Value) (bs:List Bod) (home:Int):Prop:=∃ vb,v=.agg #[vb,.int .i64 home]∧Bods K w vb bs∧I64 home
def SkyIn (K:Nat→Prop) (w:World) (v:Value) (s:SkyD):Prop:=∃ vb vs vc,v=.agg #[vb,.int .i64 s.home,vs,vc]∧Bods K w vb s.bodies∧I64 s.home∧Tris K w vs s.stations∧Tris K w vc s.catalogs
theorem Vecs.keeps {K:Nat→Prop} {w w':World} {v:Value} {l:List (Int×Int)} (h:Vecs K w v l) (hk:Keeps K w w'):Vecs K w' v l:=Lies.keeps h hk fun _ _ h=>h
theorem Tris.keeps {K:Nat→Prop} {w w':World} {v:Value} {l:List (Int×Int×Int)} (h:Tris K w v l) (hk:Keeps K w w'):Tris K w' v l:=Lies.keeps h hk fun _ _ h=>h
theorem RBod.keeps {K:Nat→Prop} {w w':World} {b:Bod} {vs:List Value} (h:RBod K w b vs) (hk:Keeps K w w'):RBod K w' b vs:=let ⟨tv,h1,h2,h3,h4⟩:=h;⟨tv,h1,h2,h3,Vecs.keeps h4 hk⟩
theorem Bods.keeps {K:Nat→Prop} {w w':World} {v:Value} {l:List Bod} (h:Bods K w v l) (hk:Keeps K w w'):Bods K w' v l:=Lies.keeps h hk fun _ _ h=>h.keeps hk
theorem WorldIn.keeps {K:Nat→Prop} {w w':World} {v:Value} {bs:List Bod} {home:Int} (h:WorldIn K w v bs home) (hk:Keeps K w w'):WorldIn K w' v bs home:=let ⟨vb,h1,h2,h3⟩:=h;⟨vb,h1,Bods.keeps h2 hk,h3⟩
theorem SkyIn.keeps {K:Nat→Prop} {w w':World} {v:Value} {s:SkyD} (h:SkyIn K w v s) (hk:Keeps K w w'):SkyIn K w' v s:=let ⟨vb,vs,vc,h1,h2,h3,h4,h5⟩:=h;⟨vb,vs,vc,h1,Bods.keeps h2 hk,h3,Tris.keeps h4 hk,Tris.keeps h5 hk⟩
theorem RBod.mono {K K':Nat→Prop} {w:World} {b:Bod} {vs:List Value} (h:RBod K w b vs) (hK:∀ b,b<w.heap.size→K b→K' b):RBod K' w b vs:=let ⟨tv,h1,h2,h3,h4⟩:=h;⟨tv,h1,h2,h3,h4.mono hK fun _ _ h=>h⟩
theorem Bods.mono {K K':Nat→Prop} {w:World} {v:Value} {l:List Bod} (h:Bods K w v l) (hK:∀ b,b<w.heap.size→K b→K' b):Bods K' w v l:=Lies.mono h hK fun _ _ h=>RBod.mono h hK
theorem WorldIn.mono {K K':Nat→Prop} {w:World} {v:Value} {bs:List Bod} {home:Int} (h:WorldIn K w v bs home) (hK:∀ b,b<w.heap.size→K b→K' b):WorldIn K' w v bs home:=let ⟨vb,h1,h2,h3⟩:=h;⟨vb,h1,Bods.mono h2 hK,h3⟩
theorem SkyIn.mono {K K':Nat→Prop} {w:World} {v:Value} {s:SkyD} (h:SkyIn K w v s) (hK:∀ b,b<w.heap.size→K b→K' b):SkyIn K' w v s:=let ⟨vb,vs,vc,h1,h2,h3,h4,h5⟩:=h;⟨vb,vs,vc,h1,Bods.mono h2 hK,h3,Lies.mono h4 hK fun _ _ h=>h,Lies.mono h5 hK fun _ _ h=>h⟩
theorem SkyIn.world {K:Nat→Prop} {w:World} {vb vs vc:Value} {home:Int} {s:SkyD} (h:SkyIn K w (.agg #[vb,.int .i64 home,vs,vc]) s):WorldIn K w (.agg #[vb,.int .i64 home]) s.bodies s.home:=by
 obtain ⟨vb',vs',vc',h1,h2,h3,h4,h5⟩:=h
 simp at h1
 obtain ⟨rfl,rfl,rfl,rfl⟩:=h1
 exact ⟨_,rfl,h2,h3⟩
theorem Vecs.at {K:Nat→Prop} {w:World} {a:Option Addr} {n c:Nat} {l:List (Int×Int)} (h:Vecs K w (.slice a n c) l):n=l.length∧n≤9223372036854775807 ∧
 ∀ i,i<n→∃ b o p,a=some ⟨b,o,none⟩∧K b∧b<w.heap.size∧l[i]?=some p∧(I64 p.1∧I64 p.2)∧w.cell? ⟨b,o+i*2,none⟩=some (.int .i64 p.1)∧w.cell? ⟨b,o+i*2+1,none⟩=some (.int .i64 p.2):=by
 obtain ⟨a',c',h1,h2,h3⟩:=h
 simp at h1
 obtain ⟨rfl,rfl,rfl⟩:=h1
 refine ⟨rfl,h2,fun i hi=>?_⟩
 obtain ⟨b,o,rfl,hK,hb,hc⟩:=h3 (by intro e;subst e;simp at hi)
 obtain ⟨vs,⟨rfl,hp,hq⟩,_,hx⟩:=hc i l[i] (List.getElem?_eq_getElem hi)
 exact ⟨b,o,l[i],rfl,hK,hb,List.getElem?_eq_getElem hi,⟨hp,hq⟩,hx 0 _ rfl,hx 1 _ rfl⟩
theorem Tris.at {K:Nat→Prop} {w:World} {a:Option Addr} {n c:Nat} {l:List (Int×Int×Int)} (h:Tris K w (.slice a n c) l):n=l.length∧n≤9223372036854775807 ∧
 ∀ i,i<n→∃ b o p,a=some ⟨b,o,none⟩∧K b∧b<w.heap.size∧l[i]?=some p∧(I64 p.1∧I64 p.2.1∧I64 p.2.2)∧w.cell? ⟨b,o+i*3,none⟩=some (.int .i64 p.1)∧w.cell? ⟨b,o+i*3+1,none⟩=some (.int .i64 p.2.1)∧w.cell? ⟨b,o+i*3+2,none⟩=some (.int .i64 p.2.2):=by
 obtain ⟨a',c',h1,h2,h3⟩:=h
 simp at h1
 obtain ⟨rfl,rfl,rfl⟩:=h1
 refine ⟨rfl,h2,fun i hi=>?_⟩
 obtain ⟨b,o,rfl,hK,hb,hc⟩:=h3 (by intro e;subst e;simp at hi)
 obtain ⟨vs,⟨rfl,hp⟩,_,hx⟩:=hc i l[i] (List.getElem?_eq_getElem hi)
 exact ⟨b,o,l[i],rfl,hK,hb,List.getElem?_eq_getElem hi,hp,hx 0 _ rfl,hx 1 _ rfl,hx 2 _ rfl⟩
theorem Bods.at {K:Nat→Prop} {w:World} {a:Option Addr} {n c:Nat} {l:List Bod} (h:Bods K w (.slice a n c) l):n=l.length∧n≤9223372036854775807 ∧
 ∀ i,i<n→∃ b o p ta tn tc,a=some ⟨b,o,none⟩∧K b∧b<w.heap.size∧l[i]?=some p∧(I64 p.mu∧I64 p.radius)∧w.cell? ⟨b,o+i*3,none⟩=some (.int .i64 p.mu)∧w.cell? ⟨b,o+i*3+1,none⟩=some (.int .i64 p.radius)∧w.cell? ⟨b,o+i*3+2,none⟩=some (.slice ta tn tc)∧Vecs K w (.slice ta tn tc) p.track:=by
 obtain ⟨a',c',h1,h2,h3⟩:=h
 simp at h1
 obtain ⟨rfl,rfl,rfl⟩:=h1
 refine ⟨rfl,h2,fun i hi=>?_⟩
 obtain ⟨b,o,rfl,hK,hb,hc⟩:=h3 (by intro e;subst e;simp at hi)
 obtain ⟨vs,⟨tv,rfl,hp,hq,ht⟩,_,hx⟩:=hc i l[i] (List.getElem?_eq_getElem hi)
 obtain ⟨ta,tc,rfl,ht2⟩:=ht
 exact ⟨b,o,l[i],ta,_,tc,rfl,hK,hb,List.getElem?_eq_getElem hi,⟨hp,hq⟩,hx 0 _ rfl,hx 1 _ rfl,hx 2 _ rfl,⟨ta,tc,rfl,ht2⟩⟩
section
variable {H:Type} {enc:TypeId×Value→H} {P:Program} {W:World} {sp:Nat→Bool} {held:Bool}
end
section
open Go.Joins
variable {H:Type} {enc:TypeId×Value→H} {W:World} {sp:Nat→Bool} {held:Bool}
end
end Go.Proofs.YteafglginnonnaaGreat
