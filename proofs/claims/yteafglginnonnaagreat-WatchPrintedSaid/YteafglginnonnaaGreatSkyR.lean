/- Several texts in one. -/
import Derived.Test.YteafglginnonnaaGreatSkyB
import Derived.Test.YteafglginnonnaaGreatForceM
import Derived.Test.YteafglginnonnaaGreatSpanB
import Derived.Test.YteafglginnonnaaGreatRingF
/- Offers, what is seen and read of places and areas, in plain Lean. No program. -/
set_option linter.unusedVariables false
set_option linter.unusedSimpArgs false
namespace Go.Proofs.YteafglginnonnaaGreat
open Go.RowKit
structure OffD where
 kind:Int
 station:Int
 catalog:Int
 tick:Int
 dx:Int
 dy:Int
 err:Int
 far:Int
 wide:Int
 cost:Int
 sure:Bool
def offE0 (s:SkyD) (o:OffD):Int :=
 if o.kind≠1∧o.kind≠2 then 4
 else if withinB o.tick 0 1073741824=false then 2
 else if (s.stations.any fun x=>x.1==o.station)=false then 7
 else if (withinB o.err 0 500000&&(withinB o.far 1 134217728&&withinB o.cost 0 1000))=false then 2
 else if o.kind=2 then 0
 else if (s.catalogs.any fun x=>x.1==o.catalog)=false then 7
 else if (withinB o.dx (-4096) 4096&&(withinB o.dy (-4096) 4096&&(!(o.dx==0&&o.dy==0)&&withinB o.wide 0 1000000)))=false then 2 else 0
def offE (s:SkyD) (o:OffD):Int:=if skyE s=0 then offE0 s o else skyE s
structure KndD where
 sc:Bool
 wx:Int
 wy:Int
 far:Int
 err:Int
 dx:Int
 dy:Int
 lo:Int
 hi:Int
 wide:Int
def biasOf (s:SkyD) (v:Int):Int×Int:=match s.catalogs.find? (fun x=>x.1==v) with
 | some x=>x.2
 | none=>(0,0)
def kndOf (s:SkyD) (o:OffD):KndD:=if o.kind=2 then ⟨false,(whereV s o.station o.tick).1,(whereV s o.station o.tick).2.1,o.far,o.err,0,0,0,0,0⟩
 else ⟨true,(whereV s o.station o.tick).1,(whereV s o.station o.tick).2.1,o.far,o.err,o.dx,o.dy,(biasOf s o.catalog).1,(biasOf s o.catalog).2,o.wide⟩
def sqK (k:KndD) (p:Int×Int):Int:=(p.1 - k.wx)*(p.1 - k.wx)+(p.2 - k.wy)*(p.2 - k.wy)
def crK (k:KndD) (p:Int×Int):Int:=k.dx*(p.2 - k.wy) - k.dy*(p.1 - k.wx)
def doK (k:KndD) (p:Int×Int):Int:=k.dx*(p.1 - k.wx)+k.dy*(p.2 - k.wy)
def reachK (k:KndD) (p:Int×Int):Bool:=decide (sqK k p≤k.far*k.far)
def withinK (k:KndD) (p:Int×Int) (wd:Int):Bool:=decide (0<doK k p)&&(decide (-wd*doK k p≤1000000*crK k p)&&decide (1000000*crK k p≤wd*doK k p))
def fieldK (k:KndD) (p:Int×Int):Bool:=reachK k p&&(!k.sc || withinK k p k.wide)
def slopeK (k:KndD) (p:Int×Int):Int×Int:=(1000000*crK k p / doK k p,-(-(1000000*crK k p) / doK k p))
def readsK (k:KndD) (p:Int×Int):Int×Int:=if k.sc=true then ((slopeK k p).2 - k.hi - k.err,(slopeK k p).1 - k.lo+k.err) else (upq (sqK k p) - k.err,isq (sqK k p)+k.err)
abbrev Ar4:=Int×Int×Int×Int
def nearK (k:KndD) (a:Ar4):Int×Int:=(min (max k.wx a.1) a.2.1,min (max k.wy a.2.2.1) a.2.2.2)
def cornersA (a:Ar4):List (Int×Int):=[(a.1,a.2.2.1),(a.1,a.2.2.2),(a.2.1,a.2.2.1),(a.2.1,a.2.2.2)]
def behindK (k:KndD) (p:Int×Int):Bool:=decide (doK k p≤0)
def belowK (k:KndD) (p:Int×Int):Bool:=decide (1000000*crK k p < -k.wide*doK k p)
def aboveK (k:KndD) (p:Int×Int):Bool:=decide (k.wide*doK k p<1000000*crK k p)
def mayK (k:KndD) (a:Ar4):Bool:=reachK k (nearK k a)&&(!k.sc || (!(cornersA a).all (behindK k)&&(!(cornersA a).all (belowK k)&&!(cornersA a).all (aboveK k))))
def frontK (k:KndD) (p:Int×Int):Bool:=decide (0<doK k p)
def mostK (k:KndD) (a:Ar4):Int:=(cornersA a).foldl (fun m p=>max m (sqK k p)) 0
def hullK (k:KndD):List (Int×Int)→Int×Int→Int×Int
 | [],o=>o
 | p::l,o=>hullK k l (min o.1 (slopeK k p).1,max o.2 (slopeK k p).2)
def valuesK (k:KndD) (a:Ar4):Int×Int :=
 if k.sc=true then
  (if (cornersA a).all (frontK k)=true then ((hullK k (cornersA a) (slopeK k (a.1,a.2.2.1))).1 - k.hi - k.err,(hullK k (cornersA a) (slopeK k (a.1,a.2.2.1))).2 - k.lo+k.err) else (-1099511627776,1099511627776))
 else (isq (sqK k (nearK k a)) - k.err,upq (mostK k a)+k.err)
def clampS (n:Int):Int:=min (max n (-1099511627776)) 1099511627776
def viewK (k:KndD) (a:Ar4):Bool×Bool×Int×Int :=
 (mayK k a,(cornersA a).all (fieldK k),if mayK k a=true then (clampS (valuesK k a).1,clampS (valuesK k a).2) else (0,0))
def areaB (a:Ar4):Bool:=decide (a.1≤a.2.1)&&(decide (a.2.2.1≤a.2.2.2)&&(nearV 33554432 (a.1,a.2.2.1)&&nearV 33554432 (a.2.1,a.2.2.2)))
def fieldV (s:SkyD) (o:OffD) (p:Int×Int):Bool:=decide (offE s o=0)&&(nearV 33554432 p&&fieldK (kndOf s o) p)
def agreesV (s:SkyD) (o:OffD) (is v:Int) (p:Int×Int):Bool :=
 if offE s o=0∧nearV 33554432 p=true then
  (if is=0 then true else if is=1 then !fieldK (kndOf s o) p
   else if is=2 then fieldK (kndOf s o) p&&withinB v (readsK (kndOf s o) p).1 (readsK (kndOf s o) p).2 else false)
 else false
def readsV (s:SkyD) (o:OffD) (p:Int×Int):(Int×Int)×Bool :=
 if fieldV s o p=true∧(readsK (kndOf s o) p).1≤(readsK (kndOf s o) p).2 then (readsK (kndOf s o) p,true) else ((0,0),false)
def viewV (s:SkyD) (o:OffD) (a:Ar4):(Bool×Bool×Int×Int)×Int :=
 if offE s o=0 then (if areaB a=true then (viewK (kndOf s o) a,0) else ((false,false,0,0),2)) else ((false,false,0,0),offE s o)
def mixedB (x y:Bool×Bool×Int×Int):Bool:=(x.1&&(y.1&&(meetS x.2.2.1 x.2.2.2 y.2.2.1 y.2.2.2).2.2)) || (!x.2.1&&!y.2.1)
/-! ### bounds -/
structure KBd (k:KndD):Prop where
 wx:-34603008≤k.wx∧k.wx≤34603008
 wy:-34603008≤k.wy∧k.wy≤34603008
 far:1≤k.far∧k.far≤134217728
 err:0≤k.err∧k.err≤500000
 dx:-4096≤k.dx∧k.dx≤4096
 dy:-4096≤k.dy∧k.dy≤4096
 bias:-500000≤k.lo∧k.lo≤k.hi∧k.hi≤500000
 wide:0≤k.wide∧k.wide≤1000000
def PBd (p:Int×Int):Prop:=(-33554432≤p.1∧p.1≤33554432) ∧ -33554432≤p.2∧p.2≤33554432
theorem nearV_iff (m:Int) (p:Int×Int):nearV m p=true↔(-m≤p.1∧p.1≤m) ∧ -m≤p.2∧p.2≤m:=by
 unfold nearV withinB
 simp
theorem mul_abs {x y B C:Int} (h1:-B≤x) (h2:x≤B) (h3:-C≤y) (h4:y≤C):-(B*C)≤x*y∧x*y≤B*C:=by
 have hB:0≤B:=by omega
 have hC:0≤C:=by omega
 have e:(x*y).natAbs≤B.natAbs*C.natAbs:=by
  rw [Int.natAbs_mul]
  exact Nat.mul_le_mul (by omega) (by omega)
 have e2:(B*C).natAbs=B.natAbs*C.natAbs:=Int.natAbs_mul _ _
 have e3:0≤B*C:=Int.mul_nonneg hB hC
 omega
theorem sq_bdK {k:KndD} {p:Int×Int} (hk:KBd k) (hp:PBd p):((-68157440≤p.1 - k.wx∧p.1 - k.wx≤68157440) ∧ -68157440≤p.2 - k.wy∧p.2 - k.wy≤68157440) ∧
 (0≤(p.1 - k.wx)*(p.1 - k.wx)∧(p.1 - k.wx)*(p.1 - k.wx)≤4645436627353600)∧(0≤(p.2 - k.wy)*(p.2 - k.wy)∧(p.2 - k.wy)*(p.2 - k.wy)≤4645436627353600)∧0≤sqK k p∧sqK k p≤9290873254707200:=by
 obtain ⟨⟨h1,h2⟩,h3,h4⟩:=hp
 have h5:=hk.wx
 have h6:=hk.wy
 have a1:-68157440≤p.1 - k.wx:=by omega
 have a2:p.1 - k.wx≤68157440:=by omega
 have a3:-68157440≤p.2 - k.wy:=by omega
 have a4:p.2 - k.wy≤68157440:=by omega
 have m1:=mul_abs a1 a2 a1 a2
 have m2:=mul_abs a3 a4 a3 a4
 have n1:0≤(p.1 - k.wx)*(p.1 - k.wx):=by
  rcases Int.le_total 0 (p.1 - k.wx) with h | h
  · exact Int.mul_nonneg h h
  · exact Int.mul_nonneg_of_nonpos_of_nonpos h h
 have n2:0≤(p.2 - k.wy)*(p.2 - k.wy):=by
  rcases Int.le_total 0 (p.2 - k.wy) with h | h
  · exact Int.mul_nonneg h h
  · exact Int.mul_nonneg_of_nonpos_of_nonpos h h
 unfold sqK
 refine ⟨⟨⟨a1,a2⟩,a3,a4⟩,⟨n1,?_⟩,⟨n2,?_⟩,?_,?_⟩
 · have:=m1.2;simpa using this
 · have:=m2.2;simpa using this
 · omega
 · have h7:=m1.2;have h8:=m2.2
   have e:(68157440:Int)*68157440=4645436627353600:=by decide
   rw [e] at h7 h8
   omega
theorem cr_bdK {k:KndD} {p:Int×Int} (hk:KBd k) (hp:PBd p) :
 ((-279172874240≤k.dx*(p.2 - k.wy)∧k.dx*(p.2 - k.wy)≤279172874240) ∧ -279172874240≤k.dy*(p.1 - k.wx)∧k.dy*(p.1 - k.wx)≤279172874240) ∧
 ((-279172874240≤k.dx*(p.1 - k.wx)∧k.dx*(p.1 - k.wx)≤279172874240) ∧ -279172874240≤k.dy*(p.2 - k.wy)∧k.dy*(p.2 - k.wy)≤279172874240) ∧
 (-558345748480≤crK k p∧crK k p≤558345748480) ∧ -558345748480≤doK k p∧doK k p≤558345748480:=by
 obtain ⟨⟨⟨a1,a2⟩,a3,a4⟩,_⟩:=sq_bdK hk hp
 have e:(4096:Int)*68157440=279172874240:=by decide
 have m1:=mul_abs hk.dx.1 hk.dx.2 a3 a4
 have m2:=mul_abs hk.dy.1 hk.dy.2 a1 a2
 have m3:=mul_abs hk.dx.1 hk.dx.2 a1 a2
 have m4:=mul_abs hk.dy.1 hk.dy.2 a3 a4
 rw [e] at m1 m2 m3 m4
 unfold crK doK
 refine ⟨⟨m1,m2⟩,⟨m3,m4⟩,?_,?_⟩ <;> omega
theorem wd_bdK {k:KndD} {p:Int×Int} {wd:Int} (hk:KBd k) (hp:PBd p) (h0:0≤wd) (h1:wd≤1000000):-558345748480000000≤wd*doK k p∧wd*doK k p≤558345748480000000:=by
 have hc:=cr_bdK hk hp
 have m:=mul_abs (show -1000000≤wd by omega) h1 hc.2.2.2.1 hc.2.2.2.2
 have e:(1000000:Int)*558345748480=558345748480000000:=by decide
 rw [e] at m
 exact m
theorem stationsE_mem:∀ (l:List (Int×Int×Int)) (last:Int) (x:Int×Int×Int),stationsE last l=0→x∈l→(-1048576≤x.2.1∧x.2.1≤1048576) ∧ -1048576≤x.2.2∧x.2.2≤1048576
 | [],_,_,_,h=>by cases h
 | (id,a,b)::l,last,x,h,hx=>by
  unfold stationsE at h
  split at h
  · cases h
  · split at h
    · cases h
    · rename_i hn
      rcases List.mem_cons.1 hx with rfl | hx
      · exact (nearV_iff 1048576 (a,b)).1 (by simpa using hn)
      · exact stationsE_mem l id x h hx
theorem catalogsE_mem:∀ (l:List (Int×Int×Int)) (last:Int) (x:Int×Int×Int),catalogsE last l=0→x∈l → -500000≤x.2.1∧x.2.1≤x.2.2∧x.2.2≤500000
 | [],_,_,_,h=>by cases h
 | (id,a,b)::l,last,x,h,hx=>by
  unfold catalogsE at h
  split at h
  · cases h
  · split at h
    · cases h
    · rename_i hn
      rcases List.mem_cons.1 hx with rfl | hx
      · simp only;omega
      · exact catalogsE_mem l id x h hx
theorem skyE_zero {s:SkyD} (h:skyE s=0):worldE s.bodies s.home=0∧s.stations.length≤16∧stationsE 0 s.stations=0∧s.catalogs.length≤8∧catalogsE 0 s.catalogs=0:=by
 unfold skyE at h
 by_cases hw:worldE s.bodies s.home=0
 · rw [if_pos hw] at h
   by_cases h1:16<s.stations.length
   · rw [if_pos h1] at h;cases h
   · rw [if_neg h1] at h
     by_cases h2:stationsE 0 s.stations=0
     · rw [if_pos h2] at h
       by_cases h3:8<s.catalogs.length
       · rw [if_pos h3] at h;cases h
       · rw [if_neg h3] at h
         exact ⟨hw,by omega,h2,by omega,h⟩
     · rw [if_neg h2] at h;exact absurd h h2
 · rw [if_neg hw] at h;exact absurd h hw
theorem where_ok {s:SkyD} {id t:Int} (h:skyE s=0) (ht:withinB t 0 1073741824=true) (hs:(s.stations.any fun x=>x.1==id)=true) :
 ∃ (x:Int×Int×Int) (b:Bod),s.stations.find? (fun x=>x.1==id)=some x∧x∈s.stations∧s.bodies[s.home.toNat]?=some b∧bodyE b=0∧whereV s id t=((placeV b t).1+x.2.1,(placeV b t).2+x.2.2,true) ∧
  (-34603008≤(whereV s id t).1∧(whereV s id t).1≤34603008) ∧ -34603008≤(whereV s id t).2.1∧(whereV s id t).2.1≤34603008:=by
 obtain ⟨hw,_,hst,_⟩:=skyE_zero h
 obtain ⟨_,_,hb,h0,h1⟩:=worldE_zero hw
 obtain ⟨x,hx⟩:∃ x,s.stations.find? (fun x=>x.1==id)=some x:=by
  cases hf:s.stations.find? (fun x=>x.1==id) with
  | some x=>exact ⟨x,rfl⟩
  | none =>
   rw [List.any_eq_true] at hs
   obtain ⟨x,hx,hxe⟩:=hs
   have:=List.find?_eq_none.1 hf x hx
   exact absurd hxe this
 have hlt:s.home.toNat<s.bodies.length:=by omega
 have hbe:=hb _ (List.getElem_mem hlt)
 have hm:=List.mem_of_find?_eq_some hx
 have e:whereV s id t=((placeV s.bodies[s.home.toNat] t).1+x.2.1,(placeV s.bodies[s.home.toNat] t).2+x.2.2,true):=by
  unfold whereV
  rw [if_pos ⟨h,ht⟩,hx,List.getElem?_eq_getElem hlt]
 obtain ⟨_,_,hp,_,hpl⟩:=bodyE_zero hbe
 have hpm:=hpl _ (placeV_mem hp t)
 have hxm:=stationsE_mem _ _ x hst hm
 refine ⟨x,_,hx,hm,List.getElem?_eq_getElem hlt,hbe,e,?_⟩
 rw [e]
 dsimp only
 omega
theorem offE_zero {s:SkyD} {o:OffD} (h:offE s o=0):skyE s=0∧(o.kind=1∨o.kind=2)∧withinB o.tick 0 1073741824=true∧(s.stations.any fun x=>x.1==o.station)=true∧(0≤o.err∧o.err≤500000)∧(1≤o.far∧o.far≤134217728)∧(0≤o.cost∧o.cost≤1000) ∧
 (o.kind≠2→(s.catalogs.any fun x=>x.1==o.catalog)=true∧(-4096≤o.dx∧o.dx≤4096)∧(-4096≤o.dy∧o.dy≤4096)∧¬ (o.dx=0∧o.dy=0)∧0≤o.wide∧o.wide≤1000000):=by
 unfold offE at h
 by_cases hs:skyE s=0
 · rw [if_pos hs] at h
   unfold offE0 at h
   by_cases h1:o.kind≠1∧o.kind≠2
   · rw [if_pos h1] at h;cases h
   rw [if_neg h1] at h
   by_cases h2:withinB o.tick 0 1073741824=false
   · rw [if_pos h2] at h;cases h
   rw [if_neg h2] at h
   by_cases h3:(s.stations.any fun x=>x.1==o.station)=false
   · rw [if_pos h3] at h;cases h
   rw [if_neg h3] at h
   by_cases h4:(withinB o.err 0 500000&&(withinB o.far 1 134217728&&withinB o.cost 0 1000))=false
   · rw [if_pos h4] at h;cases h
   rw [if_neg h4] at h
   have h4':(withinB o.err 0 500000&&(withinB o.far 1 134217728&&withinB o.cost 0 1000))=true:=by simpa using h4
   unfold withinB at h4'
   simp only [Bool.and_eq_true,decide_eq_true_eq] at h4'
   refine ⟨hs,by omega,by simpa using h2,by simpa using h3,h4'.1,h4'.2.1,h4'.2.2,fun h5=>?_⟩
   rw [if_neg h5] at h
   by_cases h6:(s.catalogs.any fun x=>x.1==o.catalog)=false
   · rw [if_pos h6] at h;cases h
   rw [if_neg h6] at h
   by_cases h7:(withinB o.dx (-4096) 4096&&(withinB o.dy (-4096) 4096&&(!(o.dx==0&&o.dy==0)&&withinB o.wide 0 1000000)))=false
   · rw [if_pos h7] at h;cases h
   have h7':(withinB o.dx (-4096) 4096&&(withinB o.dy (-4096) 4096&&(!(o.dx==0&&o.dy==0)&&withinB o.wide 0 1000000)))=true:=by simpa using h7
   unfold withinB at h7'
   simp only [Bool.and_eq_true,decide_eq_true_eq,Bool.not_eq_true',Bool.and_eq_false_iff,beq_eq_false_iff_ne] at h7'
   exact ⟨by simpa using h6,h7'.1,h7'.2.1,by omega,h7'.2.2.2⟩
 · rw [if_neg hs] at h;exact absurd h hs
theorem bias_ok {s:SkyD} {v:Int} (h:skyE s=0) (hs:(s.catalogs.any fun x=>x.1==v)=true):∃ x,s.catalogs.find? (fun x=>x.1==v)=some x∧x∈s.catalogs∧biasOf s v=x.2 ∧ -500000≤x.2.1∧x.2.1≤x.2.2∧x.2.2≤500000:=by
 obtain ⟨x,hx⟩:∃ x,s.catalogs.find? (fun x=>x.1==v)=some x:=by
  cases hf:s.catalogs.find? (fun x=>x.1==v) with
  | some x=>exact ⟨x,rfl⟩
  | none =>
   rw [List.any_eq_true] at hs
   obtain ⟨x,hx,hxe⟩:=hs
   have:=List.find?_eq_none.1 hf x hx
   exact absurd hxe this
 have hm:=List.mem_of_find?_eq_some hx
 exact ⟨x,hx,hm,by unfold biasOf;rw [hx],catalogsE_mem _ _ x (skyE_zero h).2.2.2.2 hm⟩
theorem kbd_of {s:SkyD} {o:OffD} (h:offE s o=0):KBd (kndOf s o):=by
 obtain ⟨hs,hk,ht,hst,he,hf,_,hrest⟩:=offE_zero h
 obtain ⟨_,_,_,_,_,_,_,hx,hy⟩:=where_ok hs ht hst
 unfold kndOf
 by_cases h2:o.kind=2
 · rw [if_pos h2]
   exact ⟨hx,hy,hf,he,by simp,by simp,by simp,by simp⟩
 · rw [if_neg h2]
   obtain ⟨hc,hdx,hdy,_,hw⟩:=hrest h2
   obtain ⟨x,_,_,e,hb⟩:=bias_ok hs hc
   refine ⟨hx,hy,hf,he,hdx,hdy,?_,hw⟩
   dsimp only
   rw [e]
   exact hb
open Go.Shelf
theorem forgetK {P:Program} {f:FuncId} {args:Array Value} {w:World} {R:Ending→World→Prop} (S:World→Prop) (hS:S w) (h:∀ w',S w'→Calls P f args w' R):Calls P f args w R:=h w hS
theorem st_at {l:List (Int×Int×Int)} {k:Nat} {p:Int×Int×Int} (h:l[k]?=some p) (last:Int):stationsE last (l.drop k)=if p.1≤last then 11 else if nearV 1048576 (p.2.1,p.2.2)=false then 2 else stationsE p.1 (l.drop (k+1)):=by
 obtain ⟨hk,e⟩:=List.getElem?_eq_some_iff.1 h
 rw [List.drop_eq_getElem_cons hk,e]
 obtain ⟨p0,p1,p2⟩:=p
 rfl
theorem ca_at {l:List (Int×Int×Int)} {k:Nat} {p:Int×Int×Int} (h:l[k]?=some p) (last:Int):catalogsE last (l.drop k)=if p.1≤last then 11 else if p.2.1 < -500000∨p.2.2<p.2.1∨500000<p.2.2 then 2 else catalogsE p.1 (l.drop (k+1)):=by
 obtain ⟨hk,e⟩:=List.getElem?_eq_some_iff.1 h
 rw [List.drop_eq_getElem_cons hk,e]
 obtain ⟨p0,p1,p2⟩:=p
 rfl
set_option maxRecDepth 100000 in
set_option maxHeartbeats 4000000 in
theorem skcheck_any {K:Nat→Prop} {w:World} {a sa ca:Option Addr} {n c sn sc cn cc:Nat} {s:SkyD} (hb:Bods K w (.slice a n c) s.bodies) (hh:I64 s.home) (hs:Tris K w (.slice sa sn sc) s.stations) (hc:Tris K w (.slice ca cn cc) s.catalogs) :
 Gives Tryz.prog 42 #[.agg #[.slice a n c,.int .i64 s.home,.slice sa sn sc,.slice ca cn cc]] w (.int .i64 (skyE s)):=by
 have HC:=hide (fun W (hu:Up w W)=>skworld_any (hb.keeps (hu.keeps K)) hh)
 have hsn:=(Tris.at hs).1
 have hcn:=(Tris.at hc).1
 have hsm:=(Tris.at hs).2.1
 have hcm:=(Tris.at hc).2.1
 have HS:=hide hs
 have HT:=hide hc
 generalize hH:s.home=home at *
 by_cases hw:worldE s.bodies home=0
 rotate_left
 · have hE:skyE s=worldE s.bodies home:=by unfold skyE;rw [hH,if_neg hw]
   rw [hE]
   have hwb:(worldE s.bodies home != 0)=true:=by simp [hw]
   generalize worldE s.bodies home=e at *
   clear hb hh hs hc hE hsn hcn hw
   (unfold Gives;go_enter Tryz.func42,Tryz.ntmps42)
   go_wp2_with (go_at_call 81;refine (HC.out _ Up.go).mono ?_;intro _)
   go_ret
   exact ⟨rfl,Up.go⟩
 · rw [hw] at HC
   by_cases h16:16<sn
   · have hE:skyE s=8:=by unfold skyE;rw [hH,if_pos hw,if_pos (by omega)]
     rw [hE]
     have hb16:decide ((16:Int)<sn)=true:=by simp;omega
     have hb16n:decide (16<sn)=true:=by simp;omega
     clear hb hh hs hc hE hsn hcn hw HS HT
     (unfold Gives;go_enter Tryz.func42,Tryz.ntmps42)
     go_wp2_with (go_at_call 81;refine (HC.out _ Up.go).mono ?_;intro _)
     go_ret
     exact ⟨rfl,Up.go⟩
   · have hE:skyE s=if stationsE 0 s.stations=0 then (if 8<s.catalogs.length then 8 else catalogsE 0 s.catalogs) else stationsE 0 s.stations:=by unfold skyE;rw [hH,if_pos hw,if_neg (by omega)]
     have HE:=hide hE
     have HN:=hide (And.intro hsn hcn)
     have hb16:decide ((16:Int)<sn)=false:=by simp;omega
     have hb16n:decide (16<sn)=false:=by simp;omega
     clear hb hh hs hc hE hsn hcn hw
     (unfold Gives;go_enter Tryz.func42,Tryz.ntmps42)
     go_wp2_with (go_at_call 81;refine (HC.out _ Up.go).mono ?_;intro _)
     refine forgetW (fun V=>Up w V∧Box V w.heap.size #[.slice a n c,.int .i64 home,.slice sa sn sc,.slice ca cn cc] 29) ⟨Up.go,Box.go⟩ ?_
     rintro V0 ⟨hu0,bx⟩
     have H0:=hide (show (Up w V0∧Box V0 w.heap.size #[.slice a n c,.int .i64 home,.slice sa sn sc,.slice ca cn cc] 29)∧stationsE 0 s.stations=stationsE 0 (s.stations.drop 0) from ⟨⟨hu0,bx⟩,rfl⟩)
     clear hu0 bx HC
     go_loopw [4,22] (fun s4 s22 wr=>∃ (k:Nat) (last:Int),s4=.int .i64 last∧s22=.int .i64 k∧k≤sn∧Hid ((Up w wr∧Box wr w.heap.size #[.slice a n c,.int .i64 home,.slice sa sn sc,.slice ca cn cc] 29)∧stationsE 0 s.stations=stationsE last (s.stations.drop k))) (fun _ q _=>sn - (intOf q).toNat)
     case atStart=>exact ⟨0,0,by go_num,by go_num,by omega,H0⟩
     case round =>
      obtain ⟨k,last,rfl,rfl,hk,hJ⟩:=hrel
      clear H0
      by_cases hlt:k<sn
      · have hkb:decide ((k:Int)<sn)=true:=by simp;omega
        have hkn:decide (k<sn)=true:=by simp;omega
        obtain ⟨b0,o0,p,ea,_,hb0,hp,hI,d0,d1,d2⟩:=(Tris.at (HS.out.keeps (hJ.out.1.1.keeps K))).2.2 k hlt
        subst ea
        have HP:=hide (st_at hp last)
        have HI:=hide hI
        clear hp hI
        obtain ⟨p0,p1,p2⟩:=p
        dsimp only at d0 d1 d2 HP
        by_cases h1:p0≤last
        · have h1b:decide (p0≤last)=true:=by simpa using h1
          have hR:=HP.out
          rw [if_pos h1] at hR
          have HR:=hide hR
          clear hR h1 HP
          go_wp2
          go_ret
          refine ⟨ret_int ?_,(Up.via hJ.out.1.1)⟩
          have:=hJ.out.2
          rw [HR.out] at this
          rw [HE.out,if_neg (by omega),this]
        · have h1b:decide (p0≤last)=false:=by simpa using h1
          obtain ⟨N,hN⟩:∃ N,nearV 1048576 (p1,p2)=N:=⟨_,rfl⟩
          have HNR:=hide (fun W=>sknear_any p1 p2 1048576 (by omega) (by omega) W)
          have hR:=HP.out
          rw [if_neg h1,hN] at hR
          rw [hN] at HNR
          have HR:=hide hR
          clear hR h1 HP hN
          cases N
          · go_wp2_with (go_at_call 82;refine (HNR.out _).mono ?_;intro _)
            go_ret
            refine ⟨ret_int ?_,(Up.via hJ.out.1.1)⟩
            have:=hJ.out.2
            rw [HR.out,if_pos trivial] at this
            rw [HE.out,if_neg (by omega),this]
          · go_wp2_with (go_at_call 82;refine (HNR.out _).mono ?_;intro _)
            go_roundw
            case rel=>exact ⟨k+1,p0,by go_num,by go_num,by omega,hide ⟨⟨(Up.via hJ.out.1.1),(Box.via hJ.out.1.2)⟩,by rw [hJ.out.2,HR.out,if_neg (by simp)]⟩⟩
            case measure=>simp [intOf];omega
      · have hkb:decide ((k:Int)<sn)=false:=by simp;omega
        have hkn:decide (k<sn)=false:=by simp;omega
        have hst:stationsE 0 s.stations=0:=by
         rw [hJ.out.2,List.drop_eq_nil_of_le (by have:=HN.out.1;omega)]
         rfl
        have hE:=HE.out
        rw [if_pos hst] at hE
        have x0:=hJ.out.1.2.cell 3 rfl
        have lx:=hJ.out.1.2.lt
        by_cases h8:8<cn
        · have h8b:decide ((8:Int)<cn)=true:=by simp;omega
          have h8n:decide (8<cn)=true:=by simp;omega
          rw [if_pos (by have:=HN.out.2;omega)] at hE
          have HE2:=hide hE
          clear hE hst h8
          go_wp2
          go_ret
          exact ⟨ret_int (by rw [HE2.out]),(Up.via hJ.out.1.1)⟩
        · have h8b:decide ((8:Int)<cn)=false:=by simp;omega
          have h8n:decide (8<cn)=false:=by simp;omega
          rw [if_neg (by have:=HN.out.2;omega)] at hE
          have HE2:=hide hE
          have HU:=hide hJ.out.1.1
          have HB:=hide hJ.out.1.2
          clear hE hst h8 hJ HE HS
          go_wp2
          refine forgetW (fun V=>Up w V) ((Up.via HU.out)) ?_
          intro V1 hu1
          have H1:=hide (show Up w V1∧catalogsE 0 s.catalogs=catalogsE 0 (s.catalogs.drop 0) from ⟨hu1,rfl⟩)
          clear hu1 x0 lx HU HB
          go_loopw [4,46] (fun s4 s46 w2=>∃ (q:Nat) (last:Int),s4=.int .i64 last∧s46=.int .i64 q∧q≤cn∧Hid (Up w w2∧catalogsE 0 s.catalogs=catalogsE last (s.catalogs.drop q))) (fun _ q _=>cn - (intOf q).toNat)
          case atStart=>exact ⟨0,0,by go_num,by go_num,by omega,H1⟩
          case round =>
           obtain ⟨q,last,rfl,rfl,hq,hJ⟩:=hrel
           clear H1
           by_cases hlq:q<cn
           · have hqb:decide ((q:Int)<cn)=true:=by simp;omega
             have hqn:decide (q<cn)=true:=by simp;omega
             obtain ⟨b0,o0,p,ea,_,hb0,hp,hI,d0,d1,d2⟩:=(Tris.at (HT.out.keeps (hJ.out.1.keeps K))).2.2 q hlq
             subst ea
             have HP:=hide (ca_at hp last)
             have HI:=hide hI
             clear hp hI
             obtain ⟨p0,p1,p2⟩:=p
             dsimp only at d0 d1 d2 HP
             by_cases h1:p0≤last
             · have h1b:decide (p0≤last)=true:=by simpa using h1
               have hR:=HP.out
               rw [if_pos h1] at hR
               have HR:=hide hR
               clear hR h1 HP
               go_wp2
               go_ret
               refine ⟨ret_int ?_,(Up.via hJ.out.1)⟩
               rw [HE2.out,hJ.out.2,HR.out]
             · have h1b:decide (p0≤last)=false:=by simpa using h1
               by_cases h2:p1 < -500000∨p2<p1∨500000<p2
               · have hR:=HP.out
                 rw [if_neg h1,if_pos h2] at hR
                 have HR:=hide hR
                 clear hR h1 HP
                 have HF:=hide (show Hid (skyE s=2) from hide (by rw [HE2.out,hJ.out.2,HR.out]))
                 by_cases h3:p1 < -500000
                 · have h3b:decide (p1 < -500000)=true:=by simpa using h3
                   clear h2 h3
                   go_wp2
                   go_ret
                   exact ⟨ret_int (by rw [HF.out.out]),(Up.via hJ.out.1)⟩
                 · have h3b:decide (p1 < -500000)=false:=by simpa using h3
                   by_cases h4:p2<p1
                   · have h4b:decide (p2<p1)=true:=by simpa using h4
                     clear h2 h3 h4
                     go_wp2
                     go_ret
                     exact ⟨ret_int (by rw [HF.out.out]),(Up.via hJ.out.1)⟩
                   · have h4b:decide (p2<p1)=false:=by simpa using h4
                     have h5b:decide (500000<p2)=true:=by simp;omega
                     clear h2 h3 h4
                     go_wp2
                     go_ret
                     exact ⟨ret_int (by rw [HF.out.out]),(Up.via hJ.out.1)⟩
               · have hR:=HP.out
                 rw [if_neg h1,if_neg h2] at hR
                 have HR:=hide hR
                 have h3b:decide (p1 < -500000)=false:=by simp;omega
                 have h4b:decide (p2<p1)=false:=by simp;omega
                 have h5b:decide (500000<p2)=false:=by simp;omega
                 clear hR h1 h2 HP
                 go_wp2
                 go_roundw
                 case rel=>exact ⟨q+1,p0,by go_num,by go_num,by omega,hide ⟨(Up.via hJ.out.1),by rw [hJ.out.2,HR.out]⟩⟩
                 case measure=>simp [intOf];omega
           · have hqb:decide ((q:Int)<cn)=false:=by simp;omega
             have hqn:decide (q<cn)=false:=by simp;omega
             go_wp2
             go_ret
             refine ⟨ret_int ?_,(Up.via hJ.out.1)⟩
             rw [HE2.out,hJ.out.2,List.drop_eq_nil_of_le (by have:=HN.out.2;omega)]
             rfl
theorem sbetween_any (n lo hi:Int) (w:World):Gives Tryz.prog 126 #[.int .i64 n,.int .i64 lo,.int .i64 hi] w (.bool (withinB n lo hi)):=by
 (unfold Gives;go_enter Tryz.func126,Tryz.ntmps126)
 go_wp2
 all_goals go_ret
 all_goals refine ⟨ret_bool ?_,Up.refl _⟩
 · rename_i h;simp [withinB,h]
 · rename_i h;simp [withinB];omega
theorem snear_any (x y:Int) (w:World):Gives Tryz.prog 117 #[.agg #[.int .i64 x,.int .i64 y]] w (.bool (nearV 33554432 (x,y))):=by
 (unfold Gives;go_enter Tryz.func117,Tryz.ntmps117)
 go_wp2_with (go_at_call 126;refine (sbetween_any _ _ _ _).mono ?_;intro _)
 all_goals (go_ret;refine ⟨ret_bool ?_,Up.go⟩)
 all_goals (go_light;first|(simp_all [nearV];done)|(simp_all [nearV];omega)|(simp_all [nearV];repeat' split;all_goals (first|(simp_all;done)|omega|(simp_all;omega))))
theorem all_none {l:List (Int×Int)} (h:noneYet (fun p=>!nearV 33554432 p) l l.length):l.all (nearV 33554432)=true:=by
 rw [List.all_eq_true]
 intro x hx
 obtain ⟨i,hi,rfl⟩:=List.getElem_of_mem hx
 have:=h i _ hi (List.getElem?_eq_getElem hi)
 simpa using this
theorem all_found {l:List (Int×Int)} {k:Nat} {p:Int×Int} (hp:l[k]?=some p) (h:nearV 33554432 p=false):l.all (nearV 33554432)=false:=by
 rw [List.all_eq_false]
 exact ⟨p,List.mem_of_getElem? hp,by rw [h];simp⟩
theorem sbody_any {K:Nat→Prop} {w:World} {b:Bod} {ta:Option Addr} {tn tc:Nat} (ht:Vecs K w (.slice ta tn tc) b.track) :
 Gives Tryz.prog 177 #[.agg #[.int .i64 b.mu,.int .i64 b.radius,.slice ta tn tc]] w (.int .i64 (bodyE b)):=by
 have hn:=(Vecs.at ht).1
 have hm:=(Vecs.at ht).2.1
 have hE:bodyE b=if (withinB b.mu 0 1125899906842624&&withinB b.radius 0 1048576)=false then 2
  else if tn=0 then 6 else if 4096<tn then 8 else if b.track.all (nearV 33554432)=false then 2 else 0:=by unfold bodyE;rw [← hn]
 rw [hE]
 clear hE
 by_cases h1:(withinB b.mu 0 1125899906842624&&withinB b.radius 0 1048576)=false
 · rw [if_pos h1]
   clear ht hn
   rw [Bool.and_eq_false_iff] at h1
   rcases h1 with h1 | h1
   · (unfold Gives;go_enter Tryz.func177,Tryz.ntmps177)
     go_wp2_with (go_at_call 126;refine (sbetween_any _ _ _ _).mono ?_;intro _)
     go_ret
     exact ⟨rfl,Up.go⟩
   · (unfold Gives;go_enter Tryz.func177,Tryz.ntmps177)
     go_wp2_with (go_at_call 126;refine (sbetween_any _ _ _ _).mono ?_;intro _)
     all_goals go_ret
     all_goals exact ⟨rfl,Up.go⟩
 rw [if_neg h1]
 simp only [Bool.not_eq_false,Bool.and_eq_true] at h1
 obtain ⟨h1,h2⟩:=h1
 by_cases h0:tn=0
 · rw [if_pos h0]
   subst h0
   clear ht hn
   (unfold Gives;go_enter Tryz.func177,Tryz.ntmps177)
   go_wp2_with (go_at_call 126;refine (sbetween_any _ _ _ _).mono ?_;intro _)
   go_ret
   exact ⟨rfl,Up.go⟩
 rw [if_neg h0]
 have h0b:((tn:Int)==0)=false:=by simp;omega
 by_cases h4:4096<tn
 · rw [if_pos h4]
   clear ht hn
   (unfold Gives;go_enter Tryz.func177,Tryz.ntmps177)
   go_wp2_with (go_at_call 126;refine (sbetween_any _ _ _ _).mono ?_;intro _)
   go_ret
   exact ⟨rfl,Up.go⟩
 rw [if_neg h4]
 have HL:=hide (And.intro ht hn)
 obtain ⟨V,hV⟩:∃ V:Int,(if b.track.all (nearV 33554432)=false then 2 else 0)=V:=⟨_,rfl⟩
 rw [hV]
 have HV:=hide hV
 clear ht hn hV
 (unfold Gives;go_enter Tryz.func177,Tryz.ntmps177)
 go_wp2_with (go_at_call 126;refine (sbetween_any _ _ _ _).mono ?_;intro _)
 go_loopw [3] (fun s wr=>∃ k:Nat,k≤tn∧s=.int .i64 k∧Up (w.alloc (.cells #[.int .i64 b.mu,.int .i64 b.radius,.slice ta tn tc] 110)) wr∧Hid (noneYet (fun p=>!nearV 33554432 p) b.track k)) (fun s _=>tn - (intOf s).toNat)
 case atStart=>exact ⟨0,by omega,rfl,Up.go,hide (fun i p hi _=>by omega)⟩
 case round =>
  obtain ⟨k,hk,rfl,hu,hb⟩:=hrel
  have hu2:Up w wr:=((Up.refl w).alloc _).trans hu
  have hbx:Box wr w.heap.size #[.int .i64 b.mu,.int .i64 b.radius,.slice ta tn tc] 110:=(Box.mk rfl).up hu
  have c2:=hbx.cell 2 rfl
  by_cases hlt:k<tn
  · obtain ⟨b',o,p,rfl,hKb,hbw,hp,hpp,hc0,hc1⟩:=(Vecs.at (HL.out.1.keeps (hu2.keeps K))).2.2 k hlt
    have hkb:decide ((k:Int)<tn)=true:=by simp;omega
    have HP:=hide (And.intro hp (And.intro hu hu2))
    obtain ⟨p1,p2⟩:=p
    dsimp only at hc0 hc1
    clear hp hu hu2 hpp hKb hbx
    rcases hF:nearV 33554432 (p1,p2) with _ | _
    · go_wp2_with (go_at_call 117;refine (snear_any _ _ _).mono ?_;intro _)
      go_ret
      refine ⟨ret_int ?_,HP.out.2.2.trans Up.go⟩
      rw [← HV.out,if_pos (all_found HP.out.1 hF)]
    · go_wp2_with (go_at_call 117;refine (snear_any _ _ _).mono ?_;intro _)
      refine ⟨⟨k+1,by omega,by go_num,HP.out.2.1.trans Up.go,hide (hb.out.succ HP.out.1 (by rw [hF];rfl))⟩,by simp [intOf];omega⟩
  · have hkb:decide ((k:Int)<tn)=false:=by simp;omega
    obtain rfl:k=tn:=by omega
    have HU:=hide hu2
    clear hu hu2 hbx
    go_wp2
    go_ret
    refine ⟨ret_int ?_,HU.out.trans Up.go⟩
    rw [← HV.out,if_neg (by rw [all_none (by rw [← HL.out.2];exact hb.out)];simp)]
theorem sworld_any {K:Nat→Prop} {w:World} {a:Option Addr} {n c:Nat} {l:List Bod} {home:Int} (hl:Bods K w (.slice a n c) l) (hh:I64 home) :
 Gives Tryz.prog 143 #[.agg #[.slice a n c,.int .i64 home]] w (.int .i64 (worldE l home)):=by
 have hn:=(Bods.at hl).1
 have hm:=(Bods.at hl).2.1
 obtain ⟨hh0,hh1⟩:=hh
 by_cases z0:n=0
 · have hE:worldE l home=6:=by unfold worldE;rw [if_pos (by omega)]
   rw [hE]
   clear hE hl hn
   subst z0
   (unfold Gives;go_enter Tryz.func143,Tryz.ntmps143)
   go_wp2
   go_ret
   exact ⟨rfl,Up.go⟩
 by_cases z8:8<n
 · have hE:worldE l home=8:=by unfold worldE;rw [if_neg (by omega),if_pos (by omega)]
   rw [hE]
   clear hE hl hn
   have hb0:((n:Int)==0)=false:=by simp;omega
   (unfold Gives;go_enter Tryz.func143,Tryz.ntmps143)
   go_wp2
   go_ret
   exact ⟨rfl,Up.go⟩
 have hE:worldE l home=if firstE bodyE l=0 then (if home<0∨(n:Int)≤home then 7 else 0) else firstE bodyE l:=by unfold worldE;rw [if_neg (by omega),if_neg (by omega),hn]
 have HE:=hide hE
 have HN:=hide hn
 have HL:=hide hl
 have hb0:((n:Int)==0)=false:=by simp;omega
 clear hE hn hl
 (unfold Gives;go_enter Tryz.func143,Tryz.ntmps143)
 go_wp2
 go_loopw [3] (fun s wr=>∃ k:Nat,k≤n∧s=.int .i64 k∧Up (w.alloc (.cells #[.slice a n c,.int .i64 home] 25)) wr∧Hid (noneYet (fun x=>bodyE x != 0) l k)) (fun s _=>n - (intOf s).toNat)
 case atStart=>exact ⟨0,by omega,rfl,Up.refl _,hide (fun i p hi _=>by omega)⟩
 case round =>
  obtain ⟨k,hk,rfl,hu,hb⟩:=hrel
  have hu2:Up w wr:=((Up.refl w).alloc _).trans hu
  have hbx:Box wr w.heap.size #[.slice a n c,.int .i64 home] 25:=(Box.mk rfl).up hu
  obtain ⟨c0,c1⟩:=hbx.c2
  by_cases hlt:k<n
  · obtain ⟨b,o,p,ta,tn,tc,rfl,hKb,hbw,hp,hpp,hc0,hc1,hc2,ht⟩:=(Bods.at (HL.out.keeps (hu2.keeps K))).2.2 k hlt
    have hkb:decide ((k:Int)<n)=true:=by simp;omega
    have HP:=hide (And.intro hp (And.intro hu hu2))
    have HT:=hide ht
    clear hp hu hu2 hpp hKb ht hbx
    by_cases hF:bodyE p=0
    · have hF':(bodyE p != 0)=false:=by simp [hF]
      have HS:=hide hF
      clear hF
      go_wp2_with (go_at_call 177;refine (sbody_any (HT.out.keeps (Up.keeps Up.go K))).mono ?_;intro _)
      refine ⟨⟨k+1,by omega,by go_num,HP.out.2.1.trans Up.go,hide (hb.out.succ HP.out.1 (by simpa using HS.out))⟩,by simp [intOf];omega⟩
    · have hF':(bodyE p != 0)=true:=by simp [hF]
      have HS:=hide hF
      clear hF
      go_wp2_with (go_at_call 177;refine (sbody_any (HT.out.keeps (Up.keeps Up.go K))).mono ?_;intro _)
      go_ret
      refine ⟨ret_int ?_,HP.out.2.2.trans Up.go⟩
      rw [HE.out,firstE_found hb.out HP.out.1 HS.out,if_neg HS.out]
  · have hkb:decide ((k:Int)<n)=false:=by simp;omega
    obtain rfl:k=n:=by omega
    have hE2:worldE l home=if home<0∨(k:Int)≤home then 7 else 0:=by rw [HE.out,firstE_none (by rw [← HN.out];exact hb.out),if_pos rfl]
    have HE2:=hide hE2
    have HU:=hide hu2
    clear hu hu2 hbx hE2
    go_wp2
    all_goals (go_ret;refine ⟨ret_int ?_,HU.out.trans Up.go⟩;rw [HE2.out])
    all_goals (go_light;simp_all)
theorem sat_any {K:Nat→Prop} {w:World} {a:Option Addr} {n c j:Nat} {l:List Bod} {home t:Int} {p:Bod} (hl:Bods K w (.slice a n c) l) (hp:l[j]?=some p) (hb:bodyE p=0) (t0:0≤t) (t1:t≤9223372036854775807) :
 Gives Tryz.prog 152 #[.agg #[.slice a n c,.int .i64 home],.int .i64 j,.int .i64 t] w (.agg #[.int .i64 (placeV p t).1,.int .i64 (placeV p t).2]):=by
 have hn:=(Bods.at hl).1
 have hm:=(Bods.at hl).2.1
 have hjn:j<n:=by rw [hn];exact (List.getElem?_eq_some_iff.1 hp).1
 obtain ⟨b,o,p',ta,tn,tc,rfl,hKb,hbw,hp',hpp,hc0,hc1,hc2,ht⟩:=(Bods.at hl).2.2 j hjn
 rw [hp] at hp'
 cases hp'
 have hbb:=bodyE_zero hb
 have htn:=(Vecs.at ht).1
 have htm:=(Vecs.at ht).2.1
 obtain ⟨i,hi,hin⟩:∃ i:Nat,t % (tn:Int)=i∧i<tn:=by
  have h1:=Int.emod_nonneg t (show (tn:Int)≠0 by omega)
  have h2:=Int.emod_lt_of_pos t (show (0:Int)<tn by omega)
  obtain ⟨i,hi⟩:=Int.eq_ofNat_of_zero_le h1
  exact ⟨i,hi,by omega⟩
 obtain ⟨tb,tq,q,rfl,hKt,htw,hq,hqq,hd0,hd1⟩:=(Vecs.at ht).2.2 i hin
 have hv:placeV p t=q:=by unfold placeV;rw [← htn,hi];simp [List.getD,hq]
 rw [hv]
 have i0:(0:Int)≤(i:Int):=by omega
 have i1:(i:Int)<tn:=by omega
 have j0:(0:Int)≤(j:Int):=by omega
 have j1:(j:Int)<n:=by omega
 have htp:0<tn:=by omega
 clear hl hn hp hbb htn ht hq hqq hv hpp hKb hKt hb
 (unfold Gives;go_enter Tryz.func152,Tryz.ntmps152)
 go_wp2
 all_goals (refine bodyPost_give Up.go rfl ⟨_,(by simp [results,Tryz.results152,go_sem];rfl),?_⟩)
 all_goals rfl
theorem sAt_any {K:Nat→Prop} {w:World} {a:Option Addr} {n c:Nat} {l:List Bod} {home:Int} (hl:Bods K w (.slice a n c) l) (hh:I64 home) (i t:Int) :
 Gives Tryz.prog 110 #[.agg #[.slice a n c,.int .i64 home],.int .i64 i,.int .i64 t] w (.agg #[.int .i64 (atW l home i t).1,.int .i64 (atW l home i t).2]):=by
 have hn:=(Bods.at hl).1
 have hm:=(Bods.at hl).2.1
 have HL:=hide hl
 have HC:=hide (fun W (hu:Up w W)=>sworld_any (hl.keeps (hu.keeps K)) hh)
 by_cases hv:worldE l home=0∧0≤i∧i<l.length∧withinB t 0 1073741824=true
 · have hE:atW l home i t=placeV (l.getD i.toNat ⟨0,0,[]⟩) t:=by unfold atW;rw [if_pos hv]
   rw [hE]
   obtain ⟨h1,h2,h3,h4⟩:=hv
   obtain ⟨j,rfl⟩:=Int.eq_ofNat_of_zero_le h2
   have hp:l[j]?=some l[j]:=List.getElem?_eq_getElem (by omega)
   have hpv:l.getD (j:Int).toNat ⟨0,0,[]⟩=l[j]:=by simp [List.getD,hp]
   rw [hpv]
   have HT:=hide (fun W (hu:Up w W)=>sat_any (home:=home) (t:=t) (hl.keeps (hu.keeps K)) hp ((worldE_zero h1).2.2.1 _ (List.mem_of_getElem? hp)) (by simp [withinB] at h4;omega) (by simp [withinB] at h4;omega))
   generalize placeV l[j] t=P at *
   rw [h1] at HC
   have hjn:(j:Int)<n:=by omega
   have hjb:decide ((n:Int)≤j)=false:=by simp;omega
   have hj0:decide ((j:Int)<0)=false:=by simp
   clear hE hl hn hp h1 h3 hpv HL
   (unfold Gives;go_enter Tryz.func110,Tryz.ntmps110)
   go_wp2_with (first|(go_at_call 143;refine (HC.out _ Up.go).mono ?_;intro _)|(go_at_call 126;refine (sbetween_any _ _ _ _).mono ?_;intro _)|(go_at_call 152;refine (HT.out _ Up.go).mono ?_;intro _))
   all_goals (refine bodyPost_give Up.go rfl ⟨_,(by simp [results,Tryz.results110,go_sem];rfl),?_⟩)
   all_goals rfl
 · have hE:atW l home i t=(0,0):=by unfold atW;rw [if_neg hv]
   rw [hE]
   rw [← hn] at hv
   by_cases h1:worldE l home=0
   · have hv2:¬ (0≤i∧i<(n:Int)∧withinB t 0 1073741824=true):=fun h=>hv ⟨h1,h⟩
     rw [h1] at HC
     obtain ⟨T,hT⟩:∃ T,withinB t 0 1073741824=T:=⟨_,rfl⟩
     have HW:=hide (fun W=>sbetween_any t 0 1073741824 W)
     rw [hT] at HW hv2
     clear hv hE hl hn h1 hT HL
     by_cases i0:i<0
     · clear hv2
       (unfold Gives;go_enter Tryz.func110,Tryz.ntmps110)
       go_wp2_with (first|(go_at_call 143;refine (HC.out _ Up.go).mono ?_;intro _)|(go_at_call 126;refine (HW.out _).mono ?_;intro _))
       all_goals (refine bodyPost_give Up.go rfl ⟨_,(by simp [results,Tryz.results110,go_sem];rfl),?_⟩)
       all_goals rfl
     by_cases i1:(n:Int)≤i
     · clear hv2
       (unfold Gives;go_enter Tryz.func110,Tryz.ntmps110)
       go_wp2_with (first|(go_at_call 143;refine (HC.out _ Up.go).mono ?_;intro _)|(go_at_call 126;refine (HW.out _).mono ?_;intro _))
       all_goals (refine bodyPost_give Up.go rfl ⟨_,(by simp [results,Tryz.results110,go_sem];rfl),?_⟩)
       all_goals rfl
     obtain rfl:T=false:=by
      cases T
      · rfl
      · exact absurd ⟨by omega,by omega,rfl⟩ hv2
     clear hv2
     (unfold Gives;go_enter Tryz.func110,Tryz.ntmps110)
     go_wp2_with (first|(go_at_call 143;refine (HC.out _ Up.go).mono ?_;intro _)|(go_at_call 126;refine (HW.out _).mono ?_;intro _))
     all_goals (refine bodyPost_give Up.go rfl ⟨_,(by simp [results,Tryz.results110,go_sem];rfl),?_⟩)
     all_goals rfl
   · have h1b:(worldE l home != 0)=true:=by simp [h1]
     clear hv hE hl hn h1 HL
     (unfold Gives;go_enter Tryz.func110,Tryz.ntmps110)
     go_wp2_with (first|(go_at_call 143;refine (HC.out _ Up.go).mono ?_;intro _)|(go_at_call 126;refine (sbetween_any _ _ _ _).mono ?_;intro _))
     all_goals (refine bodyPost_give Up.go rfl ⟨_,(by simp [results,Tryz.results110,go_sem];rfl),?_⟩)
     all_goals rfl
end Go.Proofs.YteafglginnonnaaGreat
