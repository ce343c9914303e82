/- Several texts in one. -/
import Derived.Test.YteafglginnonnaaGreatEnergy
import Derived.Test.YteafglginnonnaaGreatForceI
import Derived.Test.YteafglginnonnaaGreatSkyP
/- What moves a body in any valid world: the program's sum is the reference's. No program. -/
set_option linter.unusedVariables false
set_option linter.unusedSimpArgs false
namespace Go.Proofs.YteafglginnonnaaGreat
open Go.RowKit
theorem pull_ordV {b:Bod} (h:bodyE b=0) {t:Int} {a:Ar} (ha:OrdA 33554432 a):OrdA 1048576 (pullB t a b):=by
 obtain ⟨h1,h2,h3,_,h4⟩:=bodyE_zero h
 have hp:=h4 _ (placeV_mem h3 t)
 have ho:=toP_ord (p:=placeV b t) (by omega) (by omega) ha
 have hq:=sqs_bd (r:=b.radius) (by omega) (by omega) ho
 have hd:=dist_bd (r:=b.radius) (by omega) (by omega) ho
 unfold pullB
 rw [pullP_val h1.1 h1.2 (by omega) (by omega) (by omega) (by omega) ha]
 have l1:=lowT_ord (mu:=b.mu) (x:=arX (toP (placeV b t) a)) (q:=(sqsL b.radius (toP (placeV b t) a),sqsH b.radius (toP (placeV b t) a))) (r:=(isq (sqsL b.radius (toP (placeV b t) a)),upq (sqsH b.radius (toP (placeV b t) a)))) h1.1 ho.1.2.1 hq.1 hq.2.1 hd.1
 have l2:=lowT_ord (mu:=b.mu) (x:=arY (toP (placeV b t) a)) (q:=(sqsL b.radius (toP (placeV b t) a),sqsH b.radius (toP (placeV b t) a))) (r:=(isq (sqsL b.radius (toP (placeV b t) a)),upq (sqsH b.radius (toP (placeV b t) a)))) h1.1 ho.2.2.1 hq.1 hq.2.1 hd.1
 have d1:=@lowT_bd b.mu (arX (toP (placeV b t) a)) (sqsL b.radius (toP (placeV b t) a),sqsH b.radius (toP (placeV b t) a)) (isq (sqsL b.radius (toP (placeV b t) a)),upq (sqsH b.radius (toP (placeV b t) a)))
 have d2:=@lowT_bd b.mu (arY (toP (placeV b t) a)) (sqsL b.radius (toP (placeV b t) a),sqsH b.radius (toP (placeV b t) a)) (isq (sqsL b.radius (toP (placeV b t) a)),upq (sqsH b.radius (toP (placeV b t) a)))
 have d3:=@lowT_bd b.mu (minusP (arX (toP (placeV b t) a))) (sqsL b.radius (toP (placeV b t) a),sqsH b.radius (toP (placeV b t) a)) (isq (sqsL b.radius (toP (placeV b t) a)),upq (sqsH b.radius (toP (placeV b t) a)))
 have d4:=@lowT_bd b.mu (minusP (arY (toP (placeV b t) a))) (sqsL b.radius (toP (placeV b t) a),sqsH b.radius (toP (placeV b t) a)) (isq (sqsL b.radius (toP (placeV b t) a)),upq (sqsH b.radius (toP (placeV b t) a)))
 refine ⟨⟨?_,?_,?_⟩,?_,?_,?_⟩ <;> simp only [arX,arY] at*<;> omega
theorem over_allV {l h:Sp} {g t:Int} {a:Ar} {bs:List Bod} (hl:Ord 1000 l) (hh:Ord 1000 h) (g0:0≤g) (g1:g≤1000) (hn:1≤bs.length∧bs.length≤8) (hb:∀ b∈bs,bodyE b=0) (ha:OrdA 33554432 a) :
 (pullsL t a bs).foldl (overStep l h) (gasP g)=allS l h g (bs.map (pullB t a)):=by
 match bs,hn with
 | b::bs,hn =>
  obtain ⟨hb0,hb1⟩:=List.forall_mem_cons.1 hb
  have hp:=pull_ordV hb0 (t:=t) ha
  have e:pullsL t a (b::bs)=(0,pullB t a b)::(List.range bs.length).map (fun (i:Nat)=>(((i:Int)+1),pullB t a (bs.getD i ⟨0,0,[]⟩))):=by
   unfold pullsL
   rw [List.length_cons,List.range_succ_eq_map]
   simp [List.map_map,Function.comp_def]
  rw [e,List.foldl_cons]
  have hbase:=gas_ord g0 g1
  have e2:overStep l h (gasP g) (0,pullB t a b)=plusA (baseS l h g (pullB t a b)) (pullB t a b):=by
   unfold overStep baseS
   rw [if_pos rfl]
   simp only
   rw [sum0_two hbase hp (by omega) (by omega) (by omega),sum0_three (plus_ord hbase hp) (light_ord hl hp) (heat_ord hh hp) (by omega) (by omega) (by omega) (by omega)]
   exact (plus_comm3 _ _ _ _).symm
  have hob:OrdA (1000+1048576+1048576+1048576) (plusA (baseS l h g (pullB t a b)) (pullB t a b)):=plus_ord (plus_ord (plus_ord hbase (light_ord hl hp)) (heat_ord hh hp)) hp
  rw [e2,fold_rest _ _ _ hob (by omega) (by simp only [List.length_map,List.length_range,List.length_cons] at hn ⊢;omega) (fun x hx=>by
   obtain ⟨i,hi,rfl⟩:=List.mem_map.1 hx
   have hi':=List.mem_range.1 hi
   refine ⟨by simp only;omega,?_⟩
   simp only
   rw [List.getD_eq_getElem?_getD,List.getElem?_eq_getElem hi']
   exact pull_ordV (hb1 _ (List.getElem_mem hi')) ha)]
  unfold allS
  rw [List.map_cons,List.headD_cons,List.foldl_cons,List.map_map]
  congr 1
  apply List.ext_getElem
  · simp
  · intro i h1 h2
    simp
    rw [List.getElem?_eq_getElem (by simpa using h1)]
    rfl
theorem fold_sumP:∀ (ps:List Ar) (o:Ar) (m:Int),OrdA m o→0≤m→m+1048576*ps.length≤1000000000000→(∀ p∈ps,OrdA 1048576 p)→ps.foldl sumP o=ps.foldl plusA o
 | [],_,_,_,_,_,_=>rfl
 | p::ps,o,m,ho,m0,hm,hp=>by
  obtain ⟨h1,h2⟩:=List.forall_mem_cons.1 hp
  simp only [List.length_cons] at hm
  rw [List.foldl_cons,List.foldl_cons,sumP_plus ho h1 (by omega) m0 (by omega)]
  exact fold_sumP ps _ (m+1048576) (plus_ord ho h1) (by omega) (by omega) h2
theorem overR_all {l h:Sp} {g t:Int} {a:Ar} {bs:List Bod} (hl:Ord 1000 l) (hh:Ord 1000 h) (g0:0≤g) (g1:g≤1000) (hn:1≤bs.length∧bs.length≤8) (hb:∀ b∈bs,bodyE b=0) (ha:OrdA 33554432 a) :
 overR bs l h g t a=allS l h g (bs.map (pullB t a)):=by
 have hp:∀ p∈bs.map (pullB t a),OrdA 1048576 p:=fun p hp=>by
  obtain ⟨b,hb',rfl⟩:=List.mem_map.1 hp
  exact pull_ordV (hb b hb') ha
 have hd:OrdA 1048576 ((bs.map (pullB t a)).headD (0,0,0,0)):=by
  match bs,hn,hp with
  | b::bs,_,hp=>exact hp _ (by simp)
 have h1:=gas_ord g0 g1
 have h2:=plus_ord h1 (light_ord hl hd)
 have h3:=plus_ord h2 (heat_ord hh hd)
 unfold overR allS
 rw [sumP_plus h1 (light_ord hl hd) (by omega) (by omega) (by omega),sumP_plus h2 (heat_ord hh hd) (by omega) (by omega) (by omega)]
 exact fold_sumP _ _ _ h3 (by omega) (by simp only [List.length_map];omega) hp
theorem over_ref {bs:List Bod} {home:Int} {l h:Sp} {g t:Int} {a:Ar} (he:askedE bs home l h g t a=0):(pullsL t a bs).foldl (overStep l h) (gasP g)=overR bs l h g t a:=by
 obtain ⟨h1,h2,_,h4,h5,h6⟩:=asked_zero he
 obtain ⟨w1,w2,w3,_⟩:=worldE_zero h1
 have hn:1≤bs.length∧bs.length≤8:=⟨List.length_pos_iff.2 w1,w2⟩
 have hd:(0≤l.1∧l.1≤l.2∧l.2≤1000)∧(-1000≤h.1∧h.1≤h.2∧h.2≤1000)∧0≤g∧g≤1000:=by
  unfold driftE at h2
  by_cases e1:boundedE l.1 l.2 0 1000=0
  · rw [if_pos e1] at h2
    by_cases e2:boundedE h.1 h.2 (-1000) 1000=0
    · rw [if_pos e2] at h2
      by_cases e3:withinB g 0 1000=true
      · unfold boundedE at e1 e2
        simp [withinB] at e3
        split at e1
        · omega
        split at e1
        · omega
        split at e2
        · omega
        split at e2
        · omega
        omega
      · rw [if_neg e3] at h2;omega
    · rw [if_neg e2] at h2;exact absurd h2 e2
  · rw [if_neg e1] at h2;exact absurd h2 e1
 have hv:checkE a.1 a.2.1=0∧checkE a.2.2.1 a.2.2.2=0:=by
  unfold areaE at h4
  split at h4
  · rename_i hv;exact valid_zero hv
  · rename_i hv;exact absurd h4 hv
 have ha:OrdA 33554432 a:=⟨limB_ord h5 (check_zero hv.1).2.1,limB_ord h6 (check_zero hv.2).2.1⟩
 have hl:Ord 1000 l:=⟨by omega,hd.1.2.1,hd.1.2.2⟩
 rw [over_allV hl hd.2.1 hd.2.2.1 hd.2.2.2 hn w3 ha,overR_all hl hd.2.1 hd.2.2.1 hd.2.2.2 hn w3 ha]
structure BoxD where
 x0:Int
 x1:Int
 y0:Int
 y1:Int
 u0:Int
 u1:Int
 v0:Int
 v1:Int
deriving DecidableEq
abbrev StD:=Int×Int×Int×Int
def stateE (x y u v:Int):Int:=if (withinB x (-33554432) 33554432&&(withinB y (-33554432) 33554432&&(withinB u (-1048576) 1048576&&withinB v (-1048576) 1048576)))=true then 0 else 2
def fullB (b:BoxD):Bool:=decide (b.x0≤b.x1)&&(decide (b.y0≤b.y1)&&(decide (b.u0≤b.u1)&&decide (b.v0≤b.v1)))
def boxE (b:BoxD):Int:=if fullB b=true then (if stateE b.x0 b.y0 b.u0 b.v0=0 then (if stateE b.x1 b.y1 b.u1 b.v1=0 then 0 else 2) else 2) else 2
def setE (l:List BoxD):Int:=if 512<l.length then 8 else firstE boxE l
def holdsB (b:BoxD) (s:StD):Bool:=withinB s.1 b.x0 b.x1&&(withinB s.2.1 b.y0 b.y1&&(withinB s.2.2.1 b.u0 b.u1&&withinB s.2.2.2 b.v0 b.v1))
structure BOk (b:BoxD):Prop where
 x:-33554432≤b.x0∧b.x0≤b.x1∧b.x1≤33554432
 y:-33554432≤b.y0∧b.y0≤b.y1∧b.y1≤33554432
 u:-1048576≤b.u0∧b.u0≤b.u1∧b.u1≤1048576
 v:-1048576≤b.v0∧b.v0≤b.v1∧b.v1≤1048576
theorem stateE_zero {x y u v:Int}:stateE x y u v=0↔(-33554432≤x∧x≤33554432)∧(-33554432≤y∧y≤33554432)∧(-1048576≤u∧u≤1048576) ∧ -1048576≤v∧v≤1048576:=by
 unfold stateE
 split
 · rename_i h
   unfold withinB at h
   simp only [Bool.and_eq_true,decide_eq_true_eq] at h
   exact ⟨fun _=>⟨h.1,h.2.1,h.2.2.1,h.2.2.2⟩,fun _=>rfl⟩
 · rename_i h
   unfold withinB at h
   simp only [Bool.and_eq_true,decide_eq_true_eq] at h
   exact ⟨fun h2=>absurd h2 (by decide),fun h2=>absurd ⟨h2.1,h2.2.1,h2.2.2.1,h2.2.2.2⟩ h⟩
theorem stateE_two (x y u v:Int):stateE x y u v=0∨stateE x y u v=2:=by
 unfold stateE;split <;> simp
theorem boxE_ok (b:BoxD):boxE b=0↔BOk b:=by
 unfold boxE fullB
 by_cases h:(decide (b.x0≤b.x1)&&(decide (b.y0≤b.y1)&&(decide (b.u0≤b.u1)&&decide (b.v0≤b.v1))))=true
 · rw [if_pos h]
   simp only [Bool.and_eq_true,decide_eq_true_eq] at h
   by_cases h1:stateE b.x0 b.y0 b.u0 b.v0=0
   · rw [if_pos h1]
     rw [stateE_zero] at h1
     by_cases h2:stateE b.x1 b.y1 b.u1 b.v1=0
     · rw [if_pos h2]
       rw [stateE_zero] at h2
       exact ⟨fun _=>⟨by omega,by omega,by omega,by omega⟩,fun _=>rfl⟩
     · rw [if_neg h2]
       rw [stateE_zero] at h2
       refine ⟨fun h3=>by omega,fun h3=>absurd ?_ h2⟩
       obtain ⟨a1,a2,a3,a4⟩:=h3
       omega
   · rw [if_neg h1]
     rw [stateE_zero] at h1
     refine ⟨fun h3=>by omega,fun h3=>absurd ?_ h1⟩
     obtain ⟨a1,a2,a3,a4⟩:=h3
     omega
 · rw [if_neg h]
   simp only [Bool.and_eq_true,decide_eq_true_eq] at h
   refine ⟨fun h3=>by omega,fun h3=>absurd ?_ h⟩
   obtain ⟨a1,a2,a3,a4⟩:=h3
   omega
/-! ### drift, worlds -/
structure DriftD where
 l:Sp
 h:Sp
 g:Int
def worldDE (bs:List Bod) (home:Int) (d:DriftD):Int:=if worldE bs home=0 then driftE d.l d.h d.g else worldE bs home
def areaX (b:BoxD):Ar:=(b.x0,b.x1,b.y0,b.y1)
def stepV (bs:List Bod) (d:DriftD) (t:Int) (b:BoxD):BoxD :=
 let a:=overR bs d.l d.h d.g t (areaX b)
 ⟨b.x0+(b.u0+a.1),b.x1+(b.u1+a.2.1),b.y0+(b.v0+a.2.2.1),b.y1+(b.v1+a.2.2.2),b.u0+a.1,b.u1+a.2.1,b.v0+a.2.2.1,b.v1+a.2.2.2⟩
def stepsV (bs:List Bod) (d:DriftD) (t:Int):List BoxD→Option (List BoxD)
 | []=>some []
 | b::l=>if boxE (stepV bs d t b)=0 then (stepsV bs d t l).map (stepV bs d t b::·) else none
def propV (bs:List Bod) (d:DriftD):Nat→Int→List BoxD→Option (List BoxD)
 | 0,_,l=>some l
 | n+1,t,l=>(stepsV bs d t l).bind (propV bs d n (t+1))
def spanE (t n:Int):Int:=if 0≤n∧n≤400∧0≤t∧t≤1073741824 - n then 0 else 2
def wayE (t n:Int) (l:List BoxD):Int:=if spanE t n=0 then setE l else 2
def propE (bs:List Bod) (home:Int) (d:DriftD) (t n:Int) (l:List BoxD):Int:=if worldDE bs home d=0 then wayE t n l else worldDE bs home d
def optL:Option (List BoxD)→List BoxD×Int
 | some r=>(r,0)
 | none=>([],14)
def propagateV (bs:List Bod) (home:Int) (d:DriftD) (t n:Int) (l:List BoxD):List BoxD×Int :=
 if propE bs home d t n l=0 then optL (propV bs d n.toNat t l)
 else ([],propE bs home d t n l)
theorem driftE_zero {l h:Sp} {g:Int} (h2:driftE l h g=0):(0≤l.1∧l.1≤l.2∧l.2≤1000)∧(-1000≤h.1∧h.1≤h.2∧h.2≤1000)∧0≤g∧g≤1000:=by
 unfold driftE at h2
 by_cases e1:boundedE l.1 l.2 0 1000=0
 · rw [if_pos e1] at h2
   by_cases e2:boundedE h.1 h.2 (-1000) 1000=0
   · rw [if_pos e2] at h2
     by_cases e3:withinB g 0 1000=true
     · unfold boundedE at e1 e2
       simp [withinB] at e3
       split at e1
       · omega
       split at e1
       · omega
       split at e2
       · omega
       split at e2
       · omega
       omega
     · rw [if_neg e3] at h2;omega
   · rw [if_neg e2] at h2;exact absurd h2 e2
 · rw [if_neg e1] at h2;exact absurd h2 e1
theorem worldDE_zero {bs:List Bod} {home:Int} {d:DriftD} (h:worldDE bs home d=0):worldE bs home=0∧driftE d.l d.h d.g=0:=by
 unfold worldDE at h
 by_cases hw:worldE bs home=0
 · rw [if_pos hw] at h;exact ⟨hw,h⟩
 · rw [if_neg hw] at h;exact absurd h hw
theorem areaX_ord {b:BoxD} (h:BOk b):OrdA 33554432 (areaX b):=⟨⟨h.x.1,h.x.2.1,h.x.2.2⟩,h.y.1,h.y.2.1,h.y.2.2⟩
theorem areaE_ord {a:Ar} (ha:OrdA 33554432 a):areaE a.1 a.2.1 a.2.2.1 a.2.2.2=0∧limB a.1 a.2.1=true∧limB a.2.2.1 a.2.2.2=true:=by
 obtain ⟨⟨x0,x1,x2⟩,y0,y1,y2⟩:=ha
 simp only [arX,arY] at x0 x1 x2 y0 y1 y2
 have c1:=check_ok (a:=a.1) (b:=a.2.1) (by omega) (by omega) (by omega)
 have c2:=check_ok (a:=a.2.2.1) (b:=a.2.2.2) (by omega) (by omega) (by omega)
 have hfar:farA a.1 a.2.1 a.2.2.1 a.2.2.2=true:=by unfold farA;simp [farB,withinB];omega
 refine ⟨?_,by simp [limB];omega,by simp [limB];omega⟩
 unfold areaE
 rw [if_pos (valid_ok c1 c2),if_pos hfar]
theorem asked_ok {bs:List Bod} {home:Int} {d:DriftD} {t:Int} {b:BoxD} (hw:worldDE bs home d=0) (ht:0≤t∧t≤1073741824) (hb:BOk b):askedE bs home d.l d.h d.g t (areaX b)=0:=by
 obtain ⟨h1,h2⟩:=worldDE_zero hw
 obtain ⟨h3,h4,h5⟩:=areaE_ord (areaX_ord hb)
 unfold askedE
 have h6:withinB t 0 1073741824=true:=by unfold withinB;simp;omega
 rw [if_pos h1,if_pos h2,if_pos h6,if_pos h3,if_pos ⟨h4,h5⟩]
theorem over_ok {bs:List Bod} {home:Int} {d:DriftD} {t:Int} {b:BoxD} (hw:worldDE bs home d=0) (ht:0≤t∧t≤1073741824) (hb:BOk b):overV bs home d.l d.h d.g t (areaX b)=(overR bs d.l d.h d.g t (areaX b),0):=by
 have he:=asked_ok hw ht hb
 unfold overV
 rw [if_pos he,over_ref he]
theorem overR_ord {bs:List Bod} {home:Int} {d:DriftD} {t:Int} {a:Ar} (hw:worldDE bs home d=0) (ha:OrdA 33554432 a):OrdA 12000000 (overR bs d.l d.h d.g t a):=by
 obtain ⟨h1,h2⟩:=worldDE_zero hw
 obtain ⟨w1,w2,w3,_⟩:=worldE_zero h1
 obtain ⟨d1,d2,d3,d4⟩:=driftE_zero h2
 have hn:1≤bs.length∧bs.length≤8:=⟨List.length_pos_iff.2 w1,w2⟩
 have hl:Ord 1000 d.l:=⟨by omega,d1.2.1,d1.2.2⟩
 rw [overR_all hl d2 d3 d4 hn w3 ha]
 have hp:∀ p∈bs.map (pullB t a),OrdA 1048576 p:=fun p hp=>by
  obtain ⟨b,hb',rfl⟩:=List.mem_map.1 hp
  exact pull_ordV (w3 b hb') ha
 have hd:OrdA 1048576 ((bs.map (pullB t a)).headD (0,0,0,0)):=by
  match bs,hn,hp with
  | b::bs,_,hp=>exact hp _ (by simp)
 have e1:=gas_ord d3 d4
 have e2:=plus_ord e1 (light_ord hl hd)
 have e3:=plus_ord e2 (heat_ord d2 hd)
 have h4:=partS_ord e3 hp bs.length (by simp)
 unfold allS
 rw [show bs.length=(bs.map (pullB t a)).length by simp,partS_all] at h4
 exact h4.mono (by simp only [List.length_map];omega)
theorem step_bd {bs:List Bod} {home:Int} {d:DriftD} {t:Int} {b:BoxD} (hw:worldDE bs home d=0) (hb:BOk b) :
 ∃ a0 a1 a2 a3:Int,overR bs d.l d.h d.g t (areaX b)=(a0,a1,a2,a3)∧(-12000000≤a0∧a0≤a1∧a1≤12000000)∧(-12000000≤a2∧a2≤a3∧a3≤12000000) ∧
  stepV bs d t b=⟨b.x0+(b.u0+a0),b.x1+(b.u1+a1),b.y0+(b.v0+a2),b.y1+(b.v1+a3),b.u0+a0,b.u1+a1,b.v0+a2,b.v1+a3⟩:=by
 have h:=overR_ord (t:=t) hw (areaX_ord hb)
 unfold stepV
 generalize overR bs d.l d.h d.g t (areaX b)=r at *
 obtain ⟨a0,a1,a2,a3⟩:=r
 exact ⟨a0,a1,a2,a3,rfl,h.1,h.2,rfl⟩
theorem stepsV_cons (bs:List Bod) (d:DriftD) (t:Int) (b:BoxD) (l:List BoxD):stepsV bs d t (b::l)=if boxE (stepV bs d t b)=0 then (stepsV bs d t l).map (stepV bs d t b::·) else none:=rfl
theorem stepsV_append (bs:List Bod) (d:DriftD) (t:Int):∀ (l m:List BoxD),stepsV bs d t (l++m)=(stepsV bs d t l).bind fun r=>(stepsV bs d t m).map (r++·)
 | [],m=>by simp [stepsV]
 | b::l,m=>by
  rw [List.cons_append,stepsV_cons,stepsV_cons]
  by_cases h:boxE (stepV bs d t b)=0
  · rw [if_pos h,if_pos h,stepsV_append bs d t l m]
    cases stepsV bs d t l <;> cases stepsV bs d t m <;> rfl
  · rw [if_neg h,if_neg h];rfl
theorem stepsV_take {bs:List Bod} {d:DriftD} {t:Int} {l:List BoxD} {k:Nat} {b:BoxD} (hp:l[k]?=some b) (h:boxE (stepV bs d t b)=0) (hs:stepsV bs d t (l.take k)=some ((l.take k).map (stepV bs d t))) :
 stepsV bs d t (l.take (k+1))=some ((l.take (k+1)).map (stepV bs d t)):=by
 rw [List.take_add_one,hp,stepsV_append,hs]
 simp [stepsV,h]
theorem stepsV_lost {bs:List Bod} {d:DriftD} {t:Int}:∀ {l:List BoxD} {k:Nat} {b:BoxD},l[k]?=some b→¬ boxE (stepV bs d t b)=0→stepsV bs d t l=none
 | [],k,b,hp,_=>by simp at hp
 | x::l,0,b,hp,h=>by
  obtain rfl:x=b:=by simpa using hp
  unfold stepsV
  rw [if_neg h]
 | x::l,k+1,b,hp,h=>by
  unfold stepsV
  rw [stepsV_lost (by simpa using hp) h]
  split <;> rfl
theorem stepsV_some {bs:List Bod} {d:DriftD} {t:Int}:∀ {l r:List BoxD},stepsV bs d t l=some r→r=l.map (stepV bs d t)∧∀ b∈r,BOk b
 | [],r,h=>by
  unfold stepsV at h
  cases h
  exact ⟨rfl,fun b hb=>by cases hb⟩
 | x::l,r,h=>by
  unfold stepsV at h
  by_cases hx:boxE (stepV bs d t x)=0
  · rw [if_pos hx] at h
    cases hl:stepsV bs d t l with
    | none=>rw [hl] at h;cases h
    | some m =>
     rw [hl] at h
     obtain ⟨rfl,hm⟩:=stepsV_some hl
     cases h
     refine ⟨rfl,fun b hb=>?_⟩
     rcases List.mem_cons.1 hb with rfl | hb
     · exact (boxE_ok _).1 hx
     · exact hm b hb
  · rw [if_neg hx] at h;cases h
theorem propV_succ (bs:List Bod) (d:DriftD):∀ (n:Nat) (t:Int) (l:List BoxD),propV bs d (n+1) t l=(propV bs d n t l).bind (stepsV bs d (t+n))
 | 0,t,l=>by
  show (stepsV bs d t l).bind (propV bs d 0 (t+1))=stepsV bs d (t+((0:Nat):Int)) l
  rw [show t+((0:Nat):Int)=t by simp]
  cases stepsV bs d t l <;> rfl
 | n+1,t,l=>by
  show (stepsV bs d t l).bind (propV bs d (n+1) (t+1))=((stepsV bs d t l).bind (propV bs d n (t+1))).bind _
  cases stepsV bs d t l with
  | none=>rfl
  | some r =>
   show propV bs d (n+1) (t+1) r=(propV bs d n (t+1) r).bind _
   rw [propV_succ bs d n (t+1) r]
   congr 2
   omega
def meetS (a b c d:Int):Int×Int×Bool:=if validE a b c d=0∧max a c≤min b d then (max a c,min b d,true) else (0,0,false)
theorem meet_any (a b c d:Int) (w:World):Gives Tryz.prog 97 #[.agg #[.int .i64 a,.int .i64 b],.agg #[.int .i64 c,.int .i64 d]] w
 (.tuple #[.agg #[.int .i64 (meetS a b c d).1,.int .i64 (meetS a b c d).2.1],.bool (meetS a b c d).2.2]):=by
 (unfold Gives;go_enter Tryz.func97,Tryz.ntmps97)
 go_wp2_with (go_at_call 140;refine (valid_any _ _ _ _ _).mono ?_;intro _)
 all_goals (refine bodyPost_give Up.go rfl ⟨_,(by simp [results,Tryz.results97,go_sem];rfl),?_⟩)
 all_goals (go_light;first|(simp_all [meetS];done)|(simp_all [meetS];omega)|(simp_all [meetS];repeat' split;all_goals (first|(simp_all;done)|omega|(simp_all;omega))))
end Go.Proofs.YteafglginnonnaaGreat
