/- Several texts in one. -/
import Derived.Test.YteafglginnonnaaGreatEnergy
import Derived.Test.YteafglginnonnaaGreatPoint
/- What moves a body in a smaller area, with less light and heat, in plain Lean: all of it lies inside. No program. -/
set_option linter.unusedVariables false
set_option linter.unusedSimpArgs false
namespace Go.Proofs.YteafglginnonnaaGreat
open Go.RowKit
theorem fold_sub:∀ (bs:List Bod) (f F:Bod→Ar) (o O:Ar),SubA o O→(∀ b∈bs,SubA (f b) (F b))→SubA ((bs.map f).foldl plusA o) ((bs.map F).foldl plusA O)
 | [],_,_,_,_,h,_=>h
 | b::bs,f,F,o,O,h,hb=>by
  obtain ⟨h1,h2⟩:=List.forall_mem_cons.1 hb
  exact fold_sub bs f F _ _ (plus_sub h h1) h2
theorem gas_sub {g G:Int} (h0:0≤g) (h:g≤G):SubA (gasP g) (gasP G):=by
 unfold gasP SubA Sub arX arY
 simp only
 omega
theorem head_sub {s:SkyD} (hs:SmallSky s) {t:Int} {a A:Ar} (ha:OrdA 33554432 a) (hA:OrdA 33554432 A) (h:SubA a A):SubA ((s.bodies.map (pullB t a)).headD (0,0,0,0)) ((s.bodies.map (pullB t A)).headD (0,0,0,0)):=by
 have h1:=hs.num.1
 have h2:=hs.bods
 match s.bodies,h1,h2 with
 | b::bs,_,h2=>exact pullB_sub (h2 b (by simp)) ha hA h
theorem allS_sub {s:SkyD} (hs:SmallSky s) {t:Int} {a A:Ar} {l h L H:Sp} {g G:Int} (ha:OrdA 33554432 a) (hA:OrdA 33554432 A) (hsub:SubA a A) (hl:Ord 1000 l) (hL:Ord 1000 L) (hlL:Sub l L) (hh:Ord 1000 h) (hH:Ord 1000 H) (hhH:Sub h H) (g0:0≤g) (gG:g≤G) :
 SubA (allS l h g (s.bodies.map (pullB t a))) (allS L H G (s.bodies.map (pullB t A))):=by
 have hp:=head_sub hs (t:=t) ha hA hsub
 exact fold_sub _ _ _ _ _ (plus_sub (plus_sub (gas_sub g0 gG) (light_sub hl (head_ord hs t ha) hL (head_ord hs t hA) hlL hp)) (heat_sub hh (head_ord hs t ha) hH (head_ord hs t hA) hhH hp)) (fun b hb=>pullB_sub (hs.bods b hb) ha hA hsub)
/-! the same calls, with the values given by equations -/
open Go.Shelf
theorem over_incl {s:SkyD} (hs:SmallSky s) {d:DriftD} (hw:worldDE s.bodies s.home d=0) {t:Int} {a A:Ar} (ha:OrdA 33554432 a) (hA:OrdA 33554432 A) (h:SubA a A):SubA (overR s.bodies d.l d.h d.g t a) (overR s.bodies d.l d.h d.g t A):=by
 obtain ⟨h1,h2⟩:=worldDE_zero hw
 obtain ⟨w1,w2,w3,_⟩:=worldE_zero h1
 obtain ⟨d1,d2,d3,d4⟩:=driftE_zero h2
 have hn:1≤s.bodies.length∧s.bodies.length≤8:=⟨List.length_pos_iff.2 w1,w2⟩
 have hl:Ord 1000 d.l:=⟨by omega,d1.2.1,d1.2.2⟩
 rw [overR_all hl d2 d3 d4 hn w3 ha,overR_all hl d2 d3 d4 hn w3 hA]
 exact allS_sub hs ha hA h hl hl ⟨by omega,d1.2.1,by omega⟩ d2 d2 ⟨by omega,d2.2.1,by omega⟩ d3 (by omega)
theorem follow_in {s:SkyD} (hs:SmallSky s) {d:DriftD} (hw:worldDE s.bodies s.home d=0) {t:Int} (ht:0≤t∧t≤1073741824) {b:BoxD} (hb:BOk b) {p n:StD} (hp:StOk p) (h:holdsB b p=true) (hf:followsV s.bodies s.home d t p n=true):holdsB (stepV s.bodies d t b) n=true:=by
 obtain ⟨px,py,pu,pv⟩:=p
 obtain ⟨nx,ny,nu,nv⟩:=n
 obtain ⟨hx,hy,hu,hv⟩:=hp
 dsimp only at hx hy hu hv
 have hpb:BOk ⟨px,px,py,py,pu,pu,pv,pv⟩:=⟨⟨hx.1,Int.le_refl _,hx.2⟩,⟨hy.1,Int.le_refl _,hy.2⟩,⟨hu.1,Int.le_refl _,hu.2⟩,⟨hv.1,Int.le_refl _,hv.2⟩⟩
 have ho:=over_ok hw ht hpb
 have ea:areaX ⟨px,px,py,py,pu,pu,pv,pv⟩=(px,px,py,py):=rfl
 rw [ea] at ho
 unfold followsV at hf
 dsimp only at hf
 rw [ho] at hf
 obtain ⟨x0,x1,y0,y1,u0,u1,v0,v1⟩:=b
 unfold holdsB at h
 simp only [Bool.and_eq_true,withinB,decide_eq_true_eq] at h
 have hsub:SubA (px,px,py,py) (areaX ⟨x0,x1,y0,y1,u0,u1,v0,v1⟩):=⟨⟨h.1.1,Int.le_refl _,h.1.2⟩,⟨h.2.1.1,Int.le_refl _,h.2.1.2⟩⟩
 have hi:=over_incl hs hw (t:=t) (areaX_ord hpb) (areaX_ord hb) (by rw [ea];exact hsub)
 rw [ea] at hi
 unfold holdsB stepV
 generalize overR s.bodies d.l d.h d.g t (px,px,py,py)=R at *
 generalize overR s.bodies d.l d.h d.g t (areaX ⟨x0,x1,y0,y1,u0,u1,v0,v1⟩)=Q at *
 obtain ⟨r0,r1,r2,r3⟩:=R
 obtain ⟨k0,k1,k2,k3⟩:=Q
 obtain ⟨⟨i1,i2,i3⟩,i4,i5,i6⟩:=hi
 simp only [arX,arY] at i1 i2 i3 i4 i5 i6
 unfold folR at hf
 simp only [Bool.and_eq_true,withinB,decide_eq_true_eq] at hf
 obtain ⟨_,f1,f2,f3,f4⟩:=hf
 simp only [Bool.and_eq_true,withinB,decide_eq_true_eq]
 obtain ⟨g1,g2,g3,g4⟩:=h
 omega
theorem prop_in {s:SkyD} (hs:SmallSky s) {d:DriftD} (hw:worldDE s.bodies s.home d=0):∀ (n:Nat) (t:Int) (l r:List BoxD) (st:Nat→StD) (k:Nat) (b:BoxD),propV s.bodies d n t l=some r→l[k]?=some b→BOk b→holdsB b (st 0)=true→(0≤t∧t+n≤1073741824)→(∀ j,j<n→StOk (st j)∧followsV s.bodies s.home d (t+j) (st j) (st (j+1))=true)→∃ b',r[k]?=some b'∧BOk b'∧holdsB b' (st n)=true
 | 0,t,l,r,st,k,b,hp,hk,hb,h,_,_=>by
  unfold propV at hp
  cases hp
  exact ⟨b,hk,hb,h⟩
 | n+1,t,l,r,st,k,b,hp,hk,hb,h,ht,hf=>by
  unfold propV at hp
  cases hl:stepsV s.bodies d t l with
  | none=>rw [hl] at hp;cases hp
  | some m =>
   rw [hl] at hp
   obtain ⟨rfl,hm⟩:=stepsV_some hl
   have hk':(l.map (stepV s.bodies d t))[k]?=some (stepV s.bodies d t b):=by rw [List.getElem?_map,hk];rfl
   have h0:=hf 0 (by omega)
   have h1:=follow_in hs hw (t:=t) (by omega) hb h0.1 h (by have:=h0.2;simpa using this)
   exact prop_in hs hw n (t+1) _ r (fun j=>st (j+1)) k _ hp hk' (hm _ (List.mem_of_getElem? hk')) h1 (by omega) (fun j hj=>by
    have:=hf (j+1) (by omega)
    rw [show t+((j+1:Nat):Int)=t+1+(j:Int) by omega] at this
    exact this)
theorem firstN_neg {f:Nat→Bool} {n:Nat} (h:firstN f n = -1):∀ i,i<n→f i=false:=by
 intro i hi
 unfold firstN at h
 cases hf:(List.range n).find? f with
 | some k=>rw [hf] at h;simp at h
 | none =>
  have:=List.find?_eq_none.1 hf i (List.mem_range.2 hi)
  simpa using this
theorem truth_facts {bs:List Bod} {home:Int} {d:DriftD} {t:Int} {l:List StD} (h:truthV bs home d t l = -1):worldDE bs home d=0∧(0≤t∧t≤1073741824)∧t+l.length - 1≤1073741824∧(∀ i,i<l.length→StOk (l.getD i (0,0,0,0)))∧∀ i:Nat,i+1<l.length→followsV bs home d (t+i) (l.getD i (0,0,0,0)) (l.getD (i+1) (0,0,0,0))=true:=by
 unfold truthV at h
 split at h
 · rename_i hc
   obtain ⟨h1,h2,h3⟩:=hc
   have hb:=firstN_neg h
   refine ⟨h1,by simpa [withinB] using h2,h3,fun i hi=>?_,fun i hi=>?_⟩
   · have:=hb i hi
     unfold badT at this
     simp only [Bool.or_eq_false_iff,decide_eq_false_iff_not,ne_eq,Decidable.not_not] at this
     exact stateE_zero.1 this.1
   · have:=hb (i+1) hi
     unfold badT at this
     simp only [Bool.or_eq_false_iff,decide_eq_true (show 0<i+1 by omega),Bool.true_and,Bool.not_eq_false'] at this
     have h4:=this.2
     rw [show t+((i+1:Nat):Int) - 1=t+(i:Int) by omega,show i+1 - 1=i by omega] at h4
     exact h4
 · cases h
end Go.Proofs.YteafglginnonnaaGreat
