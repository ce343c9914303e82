/- Several texts in one. -/
import Derived.Test.YteafglginnonnaaGreatForceM
import Derived.Test.YteafglginnonnaaGreatForceI
import Derived.Test.YteafglginnonnaaGreatSkyQ
/- The sum of the parts, in plain Lean: exact products by thousandths, sums that never overflow, inclusion, signs. No program. -/
set_option linter.unusedVariables false
set_option linter.unusedSimpArgs false
namespace Go.Proofs.YteafglginnonnaaGreat
open Go.RowKit
def mlo (a b:Sp):Int:=min (min (min (a.1*b.1) (a.1*b.2)) (a.2*b.1)) (a.2*b.2)
def mhi (a b:Sp):Int:=max (max (max (a.1*b.1) (a.1*b.2)) (a.2*b.1)) (a.2*b.2)
theorem mlo_bd {a b:Sp} {m n:Int} (ha:Ord m a) (hb:Ord n b) (m0:0≤m) (n0:0≤n):-(m*n)≤mlo a b∧mlo a b≤mhi a b∧mhi a b≤m*n:=by
 obtain ⟨a0,a1,a2⟩:=ha
 obtain ⟨b0,b1,b2⟩:=hb
 have m1:=mul_bd (x:=a.1) (y:=b.1) (B:=m) (C:=n) (by omega) (by omega) (by omega) (by omega)
 have m2:=mul_bd (x:=a.1) (y:=b.2) (B:=m) (C:=n) (by omega) (by omega) (by omega) (by omega)
 have m3:=mul_bd (x:=a.2) (y:=b.1) (B:=m) (C:=n) (by omega) (by omega) (by omega) (by omega)
 have m4:=mul_bd (x:=a.2) (y:=b.2) (B:=m) (C:=n) (by omega) (by omega) (by omega) (by omega)
 unfold mlo mhi
 omega
theorem mulP_val {a b:Sp} (ha:Ord 2000000 a) (hb:Ord 2000000 b):mulP a b=(mlo a b,mhi a b):=by
 obtain ⟨a0,a1,a2⟩:=ha
 obtain ⟨b0,b1,b2⟩:=hb
 have v:=valid_ok (check_ok (a:=a.1) (b:=a.2) (by omega) a1 (by omega)) (check_ok (a:=b.1) (b:=b.2) (by omega) b1 (by omega))
 have m1:=mul_bd (x:=a.1) (y:=b.1) (B:=2000000) (C:=2000000) (by omega) (by omega) (by omega) (by omega)
 have m2:=mul_bd (x:=a.1) (y:=b.2) (B:=2000000) (C:=2000000) (by omega) (by omega) (by omega) (by omega)
 have m3:=mul_bd (x:=a.2) (y:=b.1) (B:=2000000) (C:=2000000) (by omega) (by omega) (by omega) (by omega)
 have m4:=mul_bd (x:=a.2) (y:=b.2) (B:=2000000) (C:=2000000) (by omega) (by omega) (by omega) (by omega)
 have one:∀ p:Int,-4000000000000≤p→p≤4000000000000→mdE p 1=(p,p,0):=fun p h0 h1=>by
  unfold mdE ceiQ floQ
  simp only [show ¬ (1:Int)<0 by omega,if_false,Int.ediv_one,Int.neg_neg]
  rw [if_pos (by omega)]
 have e1:=one (a.1*b.1) (by omega) (by omega)
 have e2:=one (a.1*b.2) (by omega) (by omega)
 have e3:=one (a.2*b.1) (by omega) (by omega)
 have e4:=one (a.2*b.2) (by omega) (by omega)
 unfold mulP mulS combE four
 rw [if_pos v,if_pos (by simp only [err,e1,e2,e3,e4,if_true])]
 simp only [acc,List.foldl_cons,List.foldl_nil,e1,e2,e3,e4]
 unfold mlo mhi
 congr 1 <;> omega
theorem partP_val {a b:Sp} (ha:Ord 2000000 a) (hb:Ord 2000000 b):partP a b=(mlo a b / 1000,-(-mhi a b / 1000)):=by
 have hbd:=mlo_bd ha hb (by omega) (by omega)
 unfold partP
 rw [mulP_val ha hb,quotP_val (n:=(mlo a b,mhi a b)) (r:=(1000,1000)) ⟨by simp only;omega,by simp only;omega,by simp only;omega⟩ ⟨by decide,by decide,by decide⟩]
 simp only [floQ,show ¬ (1000:Int)<0 by omega,if_false,Int.min_self]
theorem partP_ord {a b:Sp} (ha:Ord 1000 a) (hb:Ord 1048576 b):Ord 1048576 (partP a b):=by
 have hbd:=mlo_bd ha hb (by omega) (by omega)
 rw [partP_val (ha.mono (by omega)) (hb.mono (by omega))]
 unfold Ord
 simp only
 omega
theorem mlo_sub {a b A B:Sp} (h:Sub a A) (h':Sub b B):mlo A B≤mlo a b∧mhi a b≤mhi A B:=by
 obtain ⟨h1,h2,h3⟩:=h
 obtain ⟨k1,k2,k3⟩:=h'
 have e1:=mul_between (a:=A.1) (b:=A.2) (c:=B.1) (d:=B.2) (x:=a.1) (y:=b.1) (by omega) (by omega) (by omega) (by omega)
 have e2:=mul_between (a:=A.1) (b:=A.2) (c:=B.1) (d:=B.2) (x:=a.1) (y:=b.2) (by omega) (by omega) (by omega) (by omega)
 have e3:=mul_between (a:=A.1) (b:=A.2) (c:=B.1) (d:=B.2) (x:=a.2) (y:=b.1) (by omega) (by omega) (by omega) (by omega)
 have e4:=mul_between (a:=A.1) (b:=A.2) (c:=B.1) (d:=B.2) (x:=a.2) (y:=b.2) (by omega) (by omega) (by omega) (by omega)
 unfold mlo mhi
 omega
theorem partP_sub {a b A B:Sp} (ha:Ord 1000 a) (hb:Ord 1048576 b) (hA:Ord 1000 A) (hB:Ord 1048576 B) (h:Sub a A) (h':Sub b B):Sub (partP a b) (partP A B):=by
 have h1:=mlo_sub h h'
 have h2:=partP_ord ha hb
 rw [partP_val (ha.mono (by omega)) (hb.mono (by omega))] at h2 ⊢
 rw [partP_val (hA.mono (by omega)) (hB.mono (by omega))]
 unfold Sub
 unfold Ord at h2
 simp only at h2 ⊢
 omega
/-! ### areas -/
def plusA (a b:Ar):Ar:=(a.1+b.1,a.2.1+b.2.1,a.2.2.1+b.2.2.1,a.2.2.2+b.2.2.2)
theorem plus_ord {m n:Int} {a b:Ar} (ha:OrdA m a) (hb:OrdA n b):OrdA (m+n) (plusA a b):=by
 obtain ⟨⟨a1,a2,a3⟩,a4,a5,a6⟩:=ha
 obtain ⟨⟨b1,b2,b3⟩,b4,b5,b6⟩:=hb
 unfold arX at *
 unfold arY at *
 unfold plusA OrdA Ord arX arY
 simp only at *
 omega
theorem OrdA.mono {m n:Int} {a:Ar} (h:OrdA m a) (hm:m≤n):OrdA n a:=⟨h.1.mono hm,h.2.mono hm⟩
theorem sumP_plus {m n:Int} {a b:Ar} (ha:OrdA m a) (hb:OrdA n b) (h:m+n≤1152921504606846976) (m0:0≤m) (n0:0≤n):sumP a b=plusA a b:=by
 have h1:=plus_ord ha hb
 obtain ⟨⟨a1,a2,a3⟩,a4,a5,a6⟩:=ha
 obtain ⟨⟨b1,b2,b3⟩,b4,b5,b6⟩:=hb
 unfold arX at *
 unfold arY at *
 unfold sumP arX arY
 simp only at *
 rw [addP_of (check_ok (by simp only;omega) (by simp only;omega) (by simp only;omega)) (check_ok (by simp only;omega) (by simp only;omega) (by simp only;omega)) (by simp only;omega) (by simp only;omega),
  addP_of (check_ok (by simp only;omega) (by simp only;omega) (by simp only;omega)) (check_ok (by simp only;omega) (by simp only;omega) (by simp only;omega)) (by simp only;omega) (by simp only;omega)]
 rfl
theorem zero_ord:OrdA 0 ((0,0,0,0):Ar):=⟨⟨by decide,by decide,by decide⟩,by decide,by decide,by decide⟩
theorem plus_zero (a:Ar):plusA (0,0,0,0) a=a:=by unfold plusA;simp
theorem sum0_two {m n:Int} {a b:Ar} (ha:OrdA m a) (hb:OrdA n b) (h:m+n≤1152921504606846976) (m0:0≤m) (n0:0≤n):sum0 [a,b]=plusA a b:=by
 show sumP (sumP (0,0,0,0) a) b=_
 rw [sumP_plus zero_ord ha (by omega) (by omega) m0,plus_zero,sumP_plus ha hb h m0 n0]
theorem sum0_three {m n k:Int} {a b c:Ar} (ha:OrdA m a) (hb:OrdA n b) (hc:OrdA k c) (h:m+n+k≤1152921504606846976) (m0:0≤m) (n0:0≤n) (k0:0≤k):sum0 [a,b,c]=plusA (plusA a b) c:=by
 show sumP (sumP (sumP (0,0,0,0) a) b) c=_
 rw [sumP_plus zero_ord ha (by omega) (by omega) m0,plus_zero,sumP_plus ha hb (by omega) m0 n0,sumP_plus (plus_ord ha hb) hc h (by omega) k0]
theorem light_ord {l:Sp} {p:Ar} (hl:Ord 1000 l) (hp:OrdA 1048576 p):OrdA 1048576 (lightP l p):=⟨(partP_ord hl hp.1).neg,(partP_ord hl hp.2).neg⟩
theorem heat_ord {l:Sp} {p:Ar} (hl:Ord 1000 l) (hp:OrdA 1048576 p):OrdA 1048576 (heatP l p):=⟨(partP_ord hl hp.2).neg,partP_ord hl hp.1⟩
theorem light_sub {l L:Sp} {p P:Ar} (hl:Ord 1000 l) (hp:OrdA 1048576 p) (hL:Ord 1000 L) (hP:OrdA 1048576 P) (h:Sub l L) (h':SubA p P):SubA (lightP l p) (lightP L P) :=
 ⟨(partP_sub hl hp.1 hL hP.1 h h'.1).neg,(partP_sub hl hp.2 hL hP.2 h h'.2).neg⟩
theorem heat_sub {l L:Sp} {p P:Ar} (hl:Ord 1000 l) (hp:OrdA 1048576 p) (hL:Ord 1000 L) (hP:OrdA 1048576 P) (h:Sub l L) (h':SubA p P):SubA (heatP l p) (heatP L P) :=
 ⟨(partP_sub hl hp.2 hL hP.2 h h'.2).neg,partP_sub hl hp.1 hL hP.1 h h'.1⟩
theorem plus_sub {a b A B:Ar} (h:SubA a A) (h':SubA b B):SubA (plusA a b) (plusA A B):=by
 obtain ⟨⟨h1,h2,h3⟩,h4,h5,h6⟩:=h
 obtain ⟨⟨k1,k2,k3⟩,k4,k5,k6⟩:=h'
 unfold arX at *
 unfold arY at *
 unfold plusA SubA Sub arX arY
 simp only at *
 omega
/-! ### all that moves a body in a small world -/
theorem SmallB.mu0 {b:Bod} (h:SmallB b):0≤b.mu∧b.mu≤1125899906842624:=by have:=h.1;omega
theorem SmallB.place {b:Bod} (h:SmallB b) (t:Int):(-2000≤(placeV b t).1∧(placeV b t).1≤2000) ∧ -2000≤(placeV b t).2∧(placeV b t).2≤2000:=h.2.2.2 _ (placeV_mem (by have:=h.2.2.1;omega) t)
theorem pullB_ord {b:Bod} (h:SmallB b) {t:Int} {a:Ar} (ha:OrdA 33554432 a):OrdA 1048576 (pullB t a b):=by
 have h1:=h.mu0
 have h2:=h.2.1
 have hp:=h.place t
 have ho:=toP_ord (p:=placeV b t) (by omega) (by omega) ha
 have hq:=sqs_bd (r:=b.radius) (by omega) (by omega) ho
 have hd:=dist_bd (r:=b.radius) (by omega) (by omega) ho
 unfold pullB
 rw [pullP_val h1.1 h1.2 (by omega) (by omega) (by omega) (by omega) ha]
 have l1:=lowT_ord (mu:=b.mu) (x:=arX (toP (placeV b t) a)) (q:=(sqsL b.radius (toP (placeV b t) a),sqsH b.radius (toP (placeV b t) a))) (r:=(isq (sqsL b.radius (toP (placeV b t) a)),upq (sqsH b.radius (toP (placeV b t) a)))) h1.1 ho.1.2.1 hq.1 hq.2.1 hd.1
 have l2:=lowT_ord (mu:=b.mu) (x:=arY (toP (placeV b t) a)) (q:=(sqsL b.radius (toP (placeV b t) a),sqsH b.radius (toP (placeV b t) a))) (r:=(isq (sqsL b.radius (toP (placeV b t) a)),upq (sqsH b.radius (toP (placeV b t) a)))) h1.1 ho.2.2.1 hq.1 hq.2.1 hd.1
 have d1:=@lowT_bd b.mu (arX (toP (placeV b t) a)) (sqsL b.radius (toP (placeV b t) a),sqsH b.radius (toP (placeV b t) a)) (isq (sqsL b.radius (toP (placeV b t) a)),upq (sqsH b.radius (toP (placeV b t) a)))
 have d2:=@lowT_bd b.mu (arY (toP (placeV b t) a)) (sqsL b.radius (toP (placeV b t) a),sqsH b.radius (toP (placeV b t) a)) (isq (sqsL b.radius (toP (placeV b t) a)),upq (sqsH b.radius (toP (placeV b t) a)))
 have d3:=@lowT_bd b.mu (minusP (arX (toP (placeV b t) a))) (sqsL b.radius (toP (placeV b t) a),sqsH b.radius (toP (placeV b t) a)) (isq (sqsL b.radius (toP (placeV b t) a)),upq (sqsH b.radius (toP (placeV b t) a)))
 have d4:=@lowT_bd b.mu (minusP (arY (toP (placeV b t) a))) (sqsL b.radius (toP (placeV b t) a),sqsH b.radius (toP (placeV b t) a)) (isq (sqsL b.radius (toP (placeV b t) a)),upq (sqsH b.radius (toP (placeV b t) a)))
 refine ⟨⟨?_,?_,?_⟩,?_,?_,?_⟩ <;> simp only [arX,arY] at*<;> omega
theorem pullB_sub {b:Bod} (h:SmallB b) {t:Int} {a A:Ar} (ha:OrdA 33554432 a) (hA:OrdA 33554432 A) (hs:SubA a A):SubA (pullB t a b) (pullB t A b):=by
 have h1:=h.mu0
 have h2:=h.2.1
 have hp:=h.place t
 exact pull_sub h1.1 h1.2 (by omega) (by omega) (by omega) (by omega) ha hA hs
def baseS (l h:Sp) (g:Int) (p:Ar):Ar:=plusA (plusA (gasP g) (lightP l p)) (heatP h p)
def allS (l h:Sp) (g:Int) (ps:List Ar):Ar:=ps.foldl plusA (baseS l h g (ps.headD (0,0,0,0)))
theorem plus_comm3 (a b c d:Ar):plusA (plusA (plusA a b) c) d=plusA (plusA (plusA a d) b) c:=by
 unfold plusA
 refine Prod.ext (by simp only;omega) (Prod.ext (by simp only;omega) (Prod.ext (by simp only;omega) (by simp only;omega)))
theorem fold_rest {l h:Sp}:∀ (qs:List (Int×Ar)) (o:Ar) (m:Int),OrdA m o→0≤m→m+1048576*qs.length≤1000000000000→(∀ x∈qs,x.1≠0∧OrdA 1048576 x.2) →
 qs.foldl (overStep l h) o=(qs.map (·.2)).foldl plusA o
 | [],_,_,_,_,_,_=>rfl
 | x::qs,o,m,ho,m0,hm,hq=>by
  obtain ⟨hx,hq1⟩:=List.forall_mem_cons.1 hq
  simp only [List.length_cons] at hm
  simp only [List.foldl_cons,List.map_cons]
  have e:overStep l h o x=plusA o x.2:=by unfold overStep;rw [if_neg hx.1,sum0_two ho hx.2 (by omega) m0 (by omega)]
  rw [e]
  exact fold_rest qs _ (m+1048576) (plus_ord ho hx.2) (by omega) (by omega) hq1
theorem gas_ord {g:Int} (g0:0≤g) (g1:g≤1000):OrdA 1000 (gasP g):=by
 unfold gasP OrdA Ord arX arY
 simp only
 omega
def partS (b:Ar) (ps:List Ar) (k:Nat):Ar:=(ps.take k).foldl plusA b
theorem partS_succ {b:Ar} {ps:List Ar} {k:Nat} (hk:k<ps.length):partS b ps (k+1)=plusA (partS b ps k) (ps.getD k (0,0,0,0)):=by
 unfold partS
 rw [List.take_add_one,List.getElem?_eq_getElem hk,List.foldl_append]
 simp [List.getD,List.getElem?_eq_getElem hk]
theorem partS_all (b:Ar) (ps:List Ar):partS b ps ps.length=ps.foldl plusA b:=by unfold partS;rw [List.take_length]
theorem partS_ord {b:Ar} {ps:List Ar} {m:Int} (hb:OrdA m b) (hp:∀ p∈ps,OrdA 1048576 p):∀ k,k≤ps.length→OrdA (m+1048576*k) (partS b ps k)
 | 0,_=>by simpa [partS] using hb
 | k+1,hk=>by
  rw [partS_succ (by omega)]
  have:=plus_ord (partS_ord hb hp k (by omega)) (hp (ps.getD k (0,0,0,0)) (by rw [List.getD_eq_getElem?_getD,List.getElem?_eq_getElem (by omega)];exact List.getElem_mem _))
  exact this.mono (by omega)
theorem pulls_ord {s:SkyD} (hs:SmallSky s) (t:Int) {a:Ar} (ha:OrdA 33554432 a):∀ p∈s.bodies.map (pullB t a),OrdA 1048576 p:=fun p hp=>by
 obtain ⟨b,hb,rfl⟩:=List.mem_map.1 hp
 exact pullB_ord (hs.bods b hb) ha
theorem head_ord {s:SkyD} (hs:SmallSky s) (t:Int) {a:Ar} (ha:OrdA 33554432 a):OrdA 1048576 ((s.bodies.map (pullB t a)).headD (0,0,0,0)):=by
 have h1:=hs.num.1
 have h2:=pulls_ord hs t ha
 match s.bodies,h1,h2 with
 | b::bs,_,h2=>exact h2 _ (by simp)
open Go.Shelf
theorem forgetE {P:Program} {f:FuncId} {args:Array Value} {w:World} {R:Ending→World→Prop} (S:World→Prop) (hS:S w) (h:∀ w',S w'→Calls P f args w' R):Calls P f args w R:=h w hS
theorem limB_ord {a b:Int} (h:limB a b=true) (h1:a≤b):Ord 33554432 (a,b):=by
 simp [limB] at h
 exact ⟨h.1,h1,h.2⟩
end Go.Proofs.YteafglginnonnaaGreat
