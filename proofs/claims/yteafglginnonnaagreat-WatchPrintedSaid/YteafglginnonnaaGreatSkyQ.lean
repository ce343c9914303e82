/- Rows of elements that a call has built, and what makes a sky small. No program. -/
import Derived.Test.YteafglginnonnaaGreatSkyI
import Derived.Test.YteafglginnonnaaGreatSkyB
import Derived.Deep.AppendLies
set_option linter.unusedVariables false
set_option linter.unusedSimpArgs false
namespace Go.Proofs.YteafglginnonnaaGreat
open Go.RowKit
def RowOf {α:Type} (k:Nat) (R:α→List Value→Prop) (l:List α) (xs:List Value):Prop :=
 ∃ vss:List (List Value),xs=vss.flatten∧vss.length=l.length∧∀ (i:Nat) (x:α),l[i]?=some x→∃ vs,vss[i]?=some vs∧R x vs∧vs.length=k
theorem RowOf.nil {α:Type} (k:Nat) (R:α→List Value→Prop):RowOf k R [] []:=⟨[],rfl,rfl,fun i x h=>by simp at h⟩
theorem RowOf.snoc {α:Type} {k:Nat} {R:α→List Value→Prop} {l:List α} {xs:List Value} (h:RowOf k R l xs) {x:α} {vs:List Value} (hx:R x vs) (hl:vs.length=k):RowOf k R (l++[x]) (xs++vs):=by
 obtain ⟨vss,h1,h2,h3⟩:=h
 refine ⟨vss++[vs],by simp [h1],by simp [h2],fun i y hy=>?_⟩
 rcases Nat.lt_or_ge i l.length with hi | hi
 · rw [List.getElem?_append_left hi] at hy
   obtain ⟨us,h4,h5,h6⟩:=h3 i y hy
   exact ⟨us,by rw [List.getElem?_append_left (by omega)];exact h4,h5,h6⟩
 · rw [List.getElem?_append_right hi] at hy
   have hi0:i - l.length=0:=by
    have:=(List.getElem?_eq_some_iff.1 hy).1
    simp at this
    omega
   rw [hi0] at hy
   obtain rfl:x=y:=by simpa using hy
   exact ⟨vs,by rw [List.getElem?_append_right (by omega),show i - vss.length=0 by omega];rfl,hx,hl⟩
theorem RowOf.mono {α:Type} {k:Nat} {R R':α→List Value→Prop} {l:List α} {xs:List Value} (h:RowOf k R l xs) (hR:∀ x vs,R x vs→R' x vs):RowOf k R' l xs:=by
 obtain ⟨vss,h1,h2,h3⟩:=h
 exact ⟨vss,h1,h2,fun i x hx=>let ⟨vs,h4,h5,h6⟩:=h3 i x hx;⟨vs,h4,hR x vs h5,h6⟩⟩
theorem flat_at {k:Nat}:∀ (vss:List (List Value)) (i j:Nat) (vs:List Value) (u:Value),(∀ us∈vss,us.length=k)→vss[i]?=some vs→vs[j]?=some u→vss.flatten[i*k+j]?=some u
 | [],i,j,vs,u,_,h,_=>by simp at h
 | us::vss,0,j,vs,u,hk,h,hj=>by
  obtain rfl:us=vs:=by simpa using h
  rw [List.flatten_cons,List.getElem?_append_left (by have:=(List.getElem?_eq_some_iff.1 hj).1;omega)]
  rw [Nat.zero_mul,Nat.zero_add];exact hj
 | us::vss,i+1,j,vs,u,hk,h,hj=>by
  have hu:=hk us (by simp)
  rw [List.flatten_cons,List.getElem?_append_right (by rw [hu,Nat.succ_mul];omega),hu]
  rw [show (i+1)*k+j - k=i*k+j by rw [Nat.succ_mul];omega]
  exact flat_at vss i j vs u (fun us h=>hk us (by simp [h])) (by simpa using h) hj
theorem RowOf.cell {α:Type} {k:Nat} {R:α→List Value→Prop} {l:List α} {xs:List Value} (h:RowOf k R l xs) {i:Nat} {x:α} (hx:l[i]?=some x):∃ vs,R x vs∧vs.length=k∧∀ j u,vs[j]?=some u→xs[i*k+j]?=some u:=by
 obtain ⟨vss,rfl,h2,h3⟩:=h
 obtain ⟨vs,h4,h5,h6⟩:=h3 i x hx
 refine ⟨vs,h5,h6,fun j u hj=>flat_at vss i j vs u (fun us hus=>?_) h4 hj⟩
 obtain ⟨n,hn,rfl⟩:=List.getElem_of_mem hus
 obtain ⟨ws,h7,_,h8⟩:=h3 n l[n] (List.getElem?_eq_getElem (by omega))
 rw [List.getElem?_eq_getElem hn] at h7
 cases h7
 exact h8
theorem RowOf.len {α:Type} {k:Nat} {R:α→List Value→Prop} {l:List α} {xs:List Value} {w:World} {base:Nat} {e:TypeId} {v:Value} {n:Nat} (_:RowOf k R l xs) (ho:w.ownsRow base e k v n xs):xs.length=n*k:=ho.1
theorem Lies.ofRow {α:Type} {K:Nat→Prop} {k:Nat} {R:World→α→List Value→Prop} {w:World} {base:Nat} {e:TypeId} {v:Value} {l:List α} {xs:List Value} (ho:w.ownsRow base e k v l.length xs) (hr:RowOf k (R w) l xs) (hK:∀ g,v.ownBlock=some g→K g) (hm:l.length≤9223372036854775807):Lies K k R w v l:=by
 have ho':=ho
 rcases ho.2 with ⟨rfl,h0⟩ | ⟨g,cap,cur,rfl,hb,hg,_⟩
 · obtain rfl:l=[]:=List.length_eq_zero_iff.1 h0
   exact Lies.nil _ _ _ _ _ _
 · refine ⟨_,_,rfl,hm,fun _=>⟨g,0,rfl,hK g rfl,(Array.getElem?_eq_some_iff.1 hg).1,fun i x hx=>?_⟩⟩
   obtain ⟨vs,h1,h2,h3⟩:=hr.cell hx
   refine ⟨vs,h1,h2,fun j u hu=>?_⟩
   have hi:i<l.length:=(List.getElem?_eq_some_iff.1 hx).1
   have hj:j<k:=by have:=(List.getElem?_eq_some_iff.1 hu).1;omega
   have:i*k+j<l.length*k:=by
    have h4:(i+1)*k≤l.length*k:=Nat.mul_le_mul_right k (by omega)
    rw [Nat.succ_mul] at h4
    omega
   rw [Nat.zero_add,ho'.cellAt (i*k+j) this]
   exact h3 j u hu
theorem ownsRow_keeps {K:Nat→Prop} {w w':World} {base:Nat} {e:TypeId} {size:Nat} {v:Value} {n:Nat} {xs:List Value} (h:w.ownsRow base e size v n xs) (hk:Keeps K w w') (hK:∀ g,v.ownBlock=some g→K g):w'.ownsRow base e size v n xs:=by
 refine ⟨h.1,?_⟩
 rcases h.2 with h0 | ⟨g,cap,cur,rfl,hb,hg,h1,h2,h3,h4⟩
 · exact .inl h0
 · exact .inr ⟨g,cap,cur,rfl,hb,(hk.2 g (hK g rfl) (Array.getElem?_eq_some_iff.1 hg).1).trans hg,h1,h2,h3,h4⟩
theorem ownsRow_one {w:World} {base:Nat} {e:TypeId} {size:Nat} {v:Value} {n:Nat} {xs:List Value} (h:w.ownsRow base e size v n xs):v.oneCell'=true:=by
 rcases h.2 with ⟨rfl,_⟩ | ⟨g,cap,cur,rfl,_⟩ <;> rfl
theorem Keeps.box {K:Nat→Prop} {w w':World} (hk:Keeps K w w') {b:Nat} {c:Array Value} {t:TypeId} (h:Box w b c t) (hK:K b):Box w' b c t:=(hk.2 b hK h.lt).trans h
theorem Keeps.turn {K:Nat→Prop} {w W W':World} (h:Keeps K w W) {row:Option Nat} (hg:W.grownBy W' row) (hK:∀ b,row=some b→¬ K b):Keeps K w W' :=
 ⟨Nat.le_trans h.1 hg.size,fun b hb hl=>(hg.block b (Nat.lt_of_lt_of_le hl h.1) (fun e=>hK b e.symm hb)).trans (h.2 b hb hl)⟩
theorem Keeps.alloc {K:Nat→Prop} {w W:World} (h:Keeps K w W) (o:Obj):Keeps K w (W.alloc o):=h.trans (((Up.refl W).alloc o).keeps K)
theorem Keeps.ext {K:Nat→Prop} {w W:World} (h:Keeps K w W) (p:Ext):Keeps K w (Go.Proofs.YteafglginnonnaaGreat.ext W p):=h.trans (((Up.refl W).ext p).keeps K)
theorem Keeps.drew {K:Nat→Prop} {w W:World} (h:Keeps K w W):Keeps K w W.drew:=h.trans ((Up.refl W).drew.keeps K)
theorem Keeps.set {K:Nat→Prop} {w W:World} (h:Keeps K w W) {b:Nat} (hb:¬ K b) (i:Nat) (v:Value):Keeps K w (W.setCell ⟨b,i,none⟩ v) :=
 h.turn (grown_set (grown_refl _ _) i v) (fun b' e=>by cases e;exact hb)
theorem Keeps.less {K K':Nat→Prop} {w W:World} (h:Keeps K w W) (hK:∀ b,K' b→K b):Keeps K' w W:=⟨h.1,fun b hb hl=>h.2 b (hK b hb) hl⟩
def SmallB (b:Bod):Prop:=(0≤b.mu∧b.mu<1048576)∧(0≤b.radius∧b.radius<50)∧(1≤b.track.length∧b.track.length≤4)∧∀ p∈b.track,(-2000≤p.1∧p.1≤2000) ∧ -2000≤p.2∧p.2≤2000
def lastId (l:List (Int×Int×Int)):Int:=match l.getLast? with
 | some x=>x.1
 | none=>0
def SmallSt (l:List (Int×Int×Int)):Prop:=(∀ x∈l,(1≤x.1∧x.1≤9)∧(-40≤x.2.1∧x.2.1≤40) ∧ -40≤x.2.2∧x.2.2≤40)∧stationsE 0 l=0
def SmallCa (l:List (Int×Int×Int)):Prop:=(∀ x∈l,(1≤x.1∧x.1≤9)∧(-10000≤x.2.1∧x.2.1≤x.2.2)∧x.2.2≤20000)∧catalogsE 0 l=0
structure SmallSky (s:SkyD):Prop where
 num:1≤s.bodies.length∧s.bodies.length≤3
 bods:∀ b∈s.bodies,SmallB b
 home:0≤s.home∧s.home<s.bodies.length
 stn:1≤s.stations.length∧s.stations.length≤3
 sts:SmallSt s.stations
 can:1≤s.catalogs.length∧s.catalogs.length≤3
 cas:SmallCa s.catalogs
theorem stationsE_snoc {id x y:Int}:∀ (l:List (Int×Int×Int)) (last:Int),stationsE last l=0→(match l.getLast? with | some x=>x.1 | none=>last)<id→nearV 1048576 (x,y)=true→stationsE last (l++[(id,x,y)])=0
 | [],last,_,h,hn=>by
  simp at h
  show stationsE last [(id,x,y)]=0
  unfold stationsE
  rw [if_neg (by omega),if_neg (by rw [hn];decide)];rfl
 | (a,b,c)::l,last,h0,h,hn=>by
  rw [List.cons_append]
  unfold stationsE at h0 ⊢
  split at h0
  · omega
  · rename_i h1
    split at h0
    · omega
    · rename_i h2
      rw [if_neg h1,if_neg h2]
      refine stationsE_snoc l a h0 ?_ hn
      cases l with
      | nil=>simpa using h
      | cons y l=>rw [List.getLast?_cons_cons] at h;exact h
theorem catalogsE_snoc {id x y:Int}:∀ (l:List (Int×Int×Int)) (last:Int),catalogsE last l=0→(match l.getLast? with | some x=>x.1 | none=>last)<id→¬ (x < -500000∨y<x∨500000<y)→catalogsE last (l++[(id,x,y)])=0
 | [],last,_,h,hn=>by
  simp at h
  show catalogsE last [(id,x,y)]=0
  unfold catalogsE
  rw [if_neg (by omega),if_neg hn];rfl
 | (a,b,c)::l,last,h0,h,hn=>by
  rw [List.cons_append]
  unfold catalogsE at h0 ⊢
  split at h0
  · omega
  · rename_i h1
    split at h0
    · omega
    · rename_i h2
      rw [if_neg h1,if_neg h2]
      refine catalogsE_snoc l a h0 ?_ hn
      cases l with
      | nil=>simpa using h
      | cons y l=>rw [List.getLast?_cons_cons] at h;exact h
theorem SmallSt.snoc {l:List (Int×Int×Int)} (h:SmallSt l) {id x y:Int} (h1:lastId l<id) (h0:1≤id) (h2:id≤9) (h3:-40≤x∧x≤40) (h4:-40≤y∧y≤40):SmallSt (l++[(id,x,y)]):=by
 refine ⟨fun z hz=>?_,stationsE_snoc l 0 h.2 h1 (by simp [nearV,withinB];omega)⟩
 rcases List.mem_append.1 hz with hz | hz
 · exact h.1 z hz
 · obtain rfl:z=(id,x,y):=by simpa using hz
   exact ⟨⟨h0,h2⟩,h3,h4⟩
theorem SmallCa.snoc {l:List (Int×Int×Int)} (h:SmallCa l) {id x y:Int} (h1:lastId l<id) (h0:1≤id) (h2:id≤9) (h3:-10000≤x∧x≤y) (h4:y≤20000):SmallCa (l++[(id,x,y)]):=by
 refine ⟨fun z hz=>?_,catalogsE_snoc l 0 h.2 h1 (by omega)⟩
 rcases List.mem_append.1 hz with hz | hz
 · exact h.1 z hz
 · obtain rfl:z=(id,x,y):=by simpa using hz
   exact ⟨⟨h0,h2⟩,h3,h4⟩
theorem lastId_snoc (l:List (Int×Int×Int)) (x:Int×Int×Int):lastId (l++[x])=x.1:=by simp [lastId]
theorem SmallB.valid {b:Bod} (h:SmallB b):bodyE b=0:=by
 obtain ⟨h1,h2,h3,h4⟩:=h
 unfold bodyE
 rw [if_neg (by simp [withinB];omega),if_neg (by omega),if_neg (by omega),if_neg ?_]
 rw [Bool.not_eq_false,List.all_eq_true]
 intro p hp
 have:=h4 p hp
 simp [nearV,withinB]
 omega
theorem firstE_zero {α:Type} {f:α→Int} {l:List α} (h:∀ x∈l,f x=0):firstE f l=0:=by
 induction l with
 | nil=>rfl
 | cons x l ih=>unfold firstE;rw [if_pos (h x (by simp))];exact ih fun y hy=>h y (by simp [hy])
theorem SmallSky.world {s:SkyD} (h:SmallSky s):worldE s.bodies s.home=0:=by
 have h1:=h.num
 have h2:=h.home
 unfold worldE
 rw [if_neg (by omega),if_neg (by omega),if_pos (firstE_zero fun b hb=>(h.bods b hb).valid),if_neg (by omega)]
theorem SmallSky.valid {s:SkyD} (h:SmallSky s):skyE s=0:=by
 have h1:=h.stn
 have h2:=h.can
 unfold skyE
 rw [if_pos h.world,if_neg (by omega),if_pos h.sts.2,if_neg (by omega)]
 exact h.cas.2
def BodsX (g:Nat) (K:Nat→Prop) (w:World) (v:Value) (l:List Bod):Prop:=Lies K 3 (RBod (fun x=>K x∧x≠g)) w v l∧K g∧∃ C,Box w g C 110
theorem ownsRow_box {w:World} {base:Nat} {e:TypeId} {size g n c:Nat} {m:Nat} {xs:List Value} (h:w.ownsRow base e size (.slice (some ⟨g,0,none⟩) n c) m xs):∃ C,Box w g C e:=by
 rcases h.2 with ⟨h0,_⟩ | ⟨g',cap,cur,h0,_,hg,_⟩
 · cases h0
 · cases h0
   exact ⟨cur,hg⟩
theorem BodsX.keeps {g:Nat} {K:Nat→Prop} {w w':World} {v:Value} {l:List Bod} (h:BodsX g K w v l) (hk:Keeps K w w'):BodsX g K w' v l :=
 let ⟨h1,h2,C,h3⟩:=h;⟨Lies.keeps h1 hk fun _ _ h=>h.keeps (hk.less fun _ hb=>hb.1),h2,C,hk.box h3 h2⟩
theorem BodsX.mono {g:Nat} {K K':Nat→Prop} {w:World} {v:Value} {l:List Bod} (h:BodsX g K w v l) (hK:∀ b,b<w.heap.size→K b→K' b):BodsX g K' w v l :=
 let ⟨h1,h2,C,h3⟩:=h;⟨Lies.mono h1 hK fun _ _ h=>RBod.mono h fun b hb hk=>⟨hK b hb hk.1,hk.2⟩,hK g h3.lt h2,C,h3⟩
theorem BodsX.bods {g:Nat} {K:Nat→Prop} {w:World} {v:Value} {l:List Bod} (h:BodsX g K w v l):Bods K w v l:=Lies.mono h.1 (fun _ _ h=>h) fun _ _ h=>RBod.mono h fun _ _ hk=>hk.1
def SkyX (K:Nat→Prop) (w:World) (v:Value) (s:SkyD):Prop:=∃ g c vs vc,v=.agg #[.slice (some ⟨g,0,none⟩) s.bodies.length c,.int .i64 s.home,vs,vc]∧BodsX g K w (.slice (some ⟨g,0,none⟩) s.bodies.length c) s.bodies∧I64 s.home∧Tris K w vs s.stations∧Tris K w vc s.catalogs
theorem SkyX.sky {K:Nat→Prop} {w:World} {v:Value} {s:SkyD} (h:SkyX K w v s):SkyIn K w v s:=let ⟨_,_,_,_,h1,h2,h3,h4,h5⟩:=h;⟨_,_,_,h1,h2.bods,h3,h4,h5⟩
theorem box_at {w:World} {b:Nat} {c:Array Value} {t:TypeId} (h:Box w b c t) (i:Nat):w.cell? ⟨b,i,none⟩=c[i]?:=by
 unfold World.cell?
 rw [show w.heap[(⟨b,i,none⟩:Addr).block]?=some (.cells c t (0,0)) from h]
 simp
theorem BodsX.mu {g:Nat} {K:Nat→Prop} {w:World} {n c:Nat} {l:List Bod} (h:BodsX g K w (.slice (some ⟨g,0,none⟩) n c) l) {i:Nat} {b:Bod} (hi:l[i]?=some b) {m:Int} (hm:I64 m):BodsX g K (w.setCell ⟨g,i*3,none⟩ (.int .i64 m)) (.slice (some ⟨g,0,none⟩) n c) (l.set i { b with mu:=m }):=by
 obtain ⟨⟨a,c',h1,h2,h3⟩,hg,C,hb⟩:=h
 cases h1
 have hne:l≠[]:=fun e=>by subst e;simp at hi
 have hlen:i<l.length:=(List.getElem?_eq_some_iff.1 hi).1
 obtain ⟨b',o,h0,_,hlt,hc⟩:=h3 hne
 cases h0
 have hcell:∀ (j:Nat) (u:Value),j≠i*3→w.cell? ⟨g,j,none⟩=some u→(w.setCell ⟨g,i*3,none⟩ (.int .i64 m)).cell? ⟨g,j,none⟩=some u:=fun j u hj hu=>by
  have hs:=hb.set (i*3) (.int .i64 m)
  rw [box_at hs]
  rw [box_at hb] at hu
  rw [Array.getElem?_setIfInBounds_ne (Ne.symm hj)]
  exact hu
 have hkeep:Keeps (fun x=>K x∧x≠g) w (w.setCell ⟨g,i*3,none⟩ (.int .i64 m)):=(Keeps.refl _ w).set (fun h=>h.2 rfl) _ _
 refine ⟨⟨_,_,by rw [List.length_set],by rw [List.length_set];exact h2,fun _=>⟨g,0,rfl,hg,by rw [show (w.setCell ⟨g,i*3,none⟩ (.int .i64 m)).heap.size=w.heap.size by simp [World.setCell]];exact hlt,fun j x hx=>?_⟩⟩,hg,_,hb.set _ _⟩
 rcases Nat.lt_trichotomy j i with hj | rfl | hj
 · rw [List.getElem?_set_ne (by omega)] at hx
   obtain ⟨vs,r,k1,k2⟩:=hc j x hx
   exact ⟨vs,r.keeps hkeep,k1,fun q u hq=>hcell _ _ (by have:=(List.getElem?_eq_some_iff.1 hq).1;omega) (k2 q u hq)⟩
 · rw [List.getElem?_set_self hlen] at hx
   obtain rfl:{ b with mu:=m }=x:=Option.some.inj hx
   obtain ⟨vs,⟨tv,rfl,r1,r2,r3⟩,k1,k2⟩:=hc j b hi
   refine ⟨[.int .i64 m,.int .i64 b.radius,tv],⟨tv,rfl,hm,r2,Vecs.keeps r3 hkeep⟩,rfl,fun q u hq=>?_⟩
   match q,hq with
   | 0,hq =>
    obtain rfl:Value.int .i64 m=u:=by simpa using hq
    have h0:=k2 0 _ rfl
    have hs:=hb.set (j*3) (.int .i64 m)
    rw [box_at hb] at h0
    rw [show 0+j*3+0=j*3 by omega] at h0 ⊢
    rw [box_at hs]
    rw [Array.getElem?_setIfInBounds_self_of_lt (Array.getElem?_eq_some_iff.1 h0).1]
   | 1,hq=>exact hcell _ _ (by omega) (k2 1 u (by simpa using hq))
   | 2,hq=>exact hcell _ _ (by omega) (k2 2 u (by simpa using hq))
   | q+3,hq=>simp at hq
 · rw [List.getElem?_set_ne (by omega)] at hx
   obtain ⟨vs,r,k1,k2⟩:=hc j x hx
   exact ⟨vs,r.keeps hkeep,k1,fun q u hq=>hcell _ _ (by omega) (k2 q u hq)⟩
end Go.Proofs.YteafglginnonnaaGreat
