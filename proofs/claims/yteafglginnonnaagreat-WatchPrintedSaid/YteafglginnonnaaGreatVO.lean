/- Several texts in one. -/
import Derived.Test.YteafglginnonnaaGreatWatT
import Derived.DeepKeys
import Derived.MapKept
import Derived.RangeFuncRecord
import Derived.Test.YteafglginnonnaaGreatW6b
import Derived.Test.YteafglginnonnaaGreatWatchJ
import Derived.Test.YteafglginnonnaaGreatRootR
import Derived.Test.YteafglginnonnaaGreatSkyR
import Derived.Test.YteafglginnonnaaGreatModk
/- The map of views: what it holds, written and read. Conditions: small numbers; what lies in memory. -/
set_option linter.unusedVariables false
set_option linter.unusedSimpArgs false
namespace Go.Proofs.YteafglginnonnaaGreat
set_option maxHeartbeats 40000000
set_option maxRecDepth 100000
open Go.RowKit Go.Shelf
theorem i64_wf {a:Int} (h:I64 a):(Lit.int .i64 a).wf=true:=by
 unfold I64 at h
 simpa [Lit.wf,IntKind.min,IntKind.max,IntKind.signed,IntKind.bits] using h
theorem cell_lits {a b:Int} (ha:I64 a) (hb:I64 b):Program.keyLits Tryz.prog 2 146 [.int .i64 a,.int .i64 b]=some [.int .i64 a,.int .i64 b]:=by
 have w1:(Lit.int .i64 a).wf=true:=i64_wf ha
 have w2:(Lit.int .i64 b).wf=true:=i64_wf hb
 have c1:Tryz.prog.cellsOf 3=1:=by kernel_rfl
 have c2:Tryz.prog.cellsOf 146=2:=by kernel_rfl
 have u1:=Tryz.underlying146
 have u2:=Tryz.underlying3
 unfold Program.keyLits
 rw [u1]
 simp only [c2,List.length_cons,List.length_nil]
 rw [if_pos trivial]
 have e1:Program.keyLits Tryz.prog 1 3 [.int .i64 a]=some [.int .i64 a]:=by
  unfold Program.keyLits
  rw [u2]
  simp [w1]
 have e2:Program.keyLits Tryz.prog 1 3 [.int .i64 b]=some [.int .i64 b]:=by
  unfold Program.keyLits
  rw [u2]
  simp [w2]
 simp [List.range_succ,c1,e1,e2]
theorem equal_cell {a b c d:Int} (ha:I64 a) (hb:I64 b) (hc:I64 c) (hd:I64 d) (w:World):∃ r:Bool,(Op.equal 146 (.agg #[.int .i64 (a),.int .i64 (b)]) (.agg #[.int .i64 (c),.int .i64 (d)])).run Tryz.prog w=.ok r w∧(r=true↔a=c∧b=d):=by
 obtain ⟨r,h1,h2⟩:=run_equalIn_deep (P:=Tryz.prog) 9998 2 146 (by kernel_rfl) w 2 2 (.agg #[.int .i64 (a),.int .i64 (b)]) (.agg #[.int .i64 (c),.int .i64 (d)]) [.int .i64 a,.int .i64 b] [.int .i64 c,.int .i64 d] (by kernel_rfl) (by kernel_rfl) (cell_lits ha hb) (cell_lits hc hd)
 exact ⟨r,h1,h2.trans (by simp)⟩
theorem check_cell (e:Bool) (a b:Int) (w:World):(Instr.checkKey e 10000 146 (.agg #[.int .i64 (a),.int .i64 (b)])).run Tryz.prog w=.ok () w:=by
 cases e
 · kernel_rfl
 · kernel_rfl
abbrev Ent:=Int×Int×(Bool×Bool×Int×Int)
abbrev vwA (v:Bool×Bool×Int×Int):Array Value:=#[.bool v.1,.bool v.2.1,.int .i64 v.2.2.1,.int .i64 v.2.2.2]
def entL (l:List Ent):List MapEntry:=l.mapIdx fun i x=>{ key:=.agg #[.int .i64 (x.1),.int .i64 (x.2.1)],val:=.agg (vwA x.2.2),born:=i }
def MapV (w:World) (b:Nat) (l:List Ent):Prop:=w.heap[b]?=some (.map (entL l).toArray l.length)
def KeyOk (l:List Ent):Prop:=∀ x∈l,I64 x.1∧I64 x.2.1
theorem entL_snoc (l:List Ent) (x:Ent):entL (l++[x])=entL l++[{ key:=.agg #[.int .i64 (x.1),.int .i64 (x.2.1)],val:=.agg (vwA x.2.2),born:=l.length }]:=by
 unfold entL
 rw [List.mapIdx_append]
 simp
theorem asking_none (w:World) {a b:Int} (ha:I64 a) (hb:I64 b):∀ (es:List MapEntry) (i:Nat),(∀ e∈es,∃ c d:Int,e.key=.agg #[.int .i64 (c),.int .i64 (d)]∧I64 c∧I64 d∧¬ (a=c∧b=d))→(Instr.findAsking 146 (.agg #[.int .i64 (a),.int .i64 (b)]) es i).run Tryz.prog w=.ok none w
 | [],i,_=>rfl
 | e::es,i,h=>by
  obtain ⟨c,d,hk,hc,hd,hne⟩:=h e (by simp)
  obtain ⟨r,h1,h2⟩:=equal_cell ha hb hc hd w
  have hr:r=false:=by
   cases r with
   | false=>rfl
   | true=>exact absurd (h2.1 rfl) hne
  subst hr
  unfold Instr.findAsking
  rw [hk]
  simp only [Sem.run_bind,h1,Result.andThen_ok]
  exact asking_none w ha hb es (i+1) fun x hx=>h x (by simp [hx])
theorem asking_some (w:World) {a b:Int} (ha:I64 a) (hb:I64 b):∀ (es:List MapEntry) (i j:Nat) (v:Value),(∀ e∈es,∃ c d:Int,e.key=.agg #[.int .i64 (c),.int .i64 (d)]∧I64 c∧I64 d∧(a=c∧b=d→e.val=v))→(∃ e∈es,e.key=.agg #[.int .i64 (a),.int .i64 (b)]) →
 ∃ n,(Instr.findAsking 146 (.agg #[.int .i64 (a),.int .i64 (b)]) es i).run Tryz.prog w=.ok (some (n,v)) w
 | [],i,j,v,_,h=>by obtain ⟨e,he,_⟩:=h;cases he
 | e::es,i,j,v,h,hex=>by
  obtain ⟨c,d,hk,hc,hd,hv⟩:=h e (by simp)
  obtain ⟨r,h1,h2⟩:=equal_cell ha hb hc hd w
  unfold Instr.findAsking
  rw [hk]
  simp only [Sem.run_bind,h1,Result.andThen_ok]
  cases r with
  | true =>
   rw [if_pos rfl,hv (h2.1 rfl)]
   exact ⟨i,rfl⟩
  | false =>
   rw [if_neg (by simp)]
   refine asking_some w ha hb es (i+1) j v (fun x hx=>h x (by simp [hx])) ?_
   obtain ⟨e',he',hk'⟩:=hex
   rcases List.mem_cons.1 he' with rfl | he'
   · rw [hk] at hk'
     simp at hk'
     exact absurd (h2.2 ⟨hk'.1.symm,hk'.2.symm⟩) (by simp)
   · exact ⟨e',he',hk'⟩
theorem findkey_ask (w:World) (a b:Int) (e:MapEntry) (es:List MapEntry):(Instr.findKey 146 (.agg #[.int .i64 (a),.int .i64 (b)]) (e::es)).run Tryz.prog w=(Instr.findAsking 146 (.agg #[.int .i64 (a),.int .i64 (b)]) (e::es) 0).run Tryz.prog w:=by
 unfold Instr.findKey
 have hu:(underlying 146).run Tryz.prog w=.ok (TypeDesc.array 2 3) w:=by kernel_rfl
 simp only [Sem.run_bind,hu,Result.andThen_ok]
 rfl
theorem findkey_nil (w:World) (a b:Int):(Instr.findKey 146 (.agg #[.int .i64 (a),.int .i64 (b)]) []).run Tryz.prog w=.ok none w:=by kernel_rfl
theorem entL_mem {l:List Ent} {e:MapEntry} (he:e∈entL l):∃ x∈l,e.key=.agg #[.int .i64 (x.1),.int .i64 (x.2.1)]∧e.val=.agg (vwA x.2.2):=by
 unfold entL at he
 obtain ⟨i,hi,rfl⟩:=List.getElem_of_mem he
 rw [List.getElem_mapIdx]
 exact ⟨l[i]'(by simpa using hi),List.getElem_mem _,rfl,rfl⟩
theorem mem_entL {l:List Ent} {x:Ent} (hx:x∈l):∃ e∈entL l,e.key=.agg #[.int .i64 (x.1),.int .i64 (x.2.1)]:=by
 obtain ⟨i,hi,rfl⟩:=List.getElem_of_mem hx
 unfold entL
 exact ⟨_,List.getElem_mem (n:=i) (by simpa using hi),by rw [List.getElem_mapIdx]⟩
theorem mapv_key {w:World} {l:List Ent} (hk:KeyOk l) {i k:Int} (hi:I64 i) (hkk:I64 k) (hnew:∀ x∈l,¬ (i=x.1∧k=x.2.1)):(Instr.findKey 146 (.agg #[.int .i64 (i),.int .i64 (k)]) (entL l)).run Tryz.prog w=.ok none w:=by
 cases hE:entL l with
 | nil=>exact findkey_nil w i k
 | cons e es =>
  rw [findkey_ask,← hE]
  refine asking_none w hi hkk _ 0 fun e' he'=>?_
  obtain ⟨x,hx,e1,_⟩:=entL_mem he'
  exact ⟨x.1,x.2.1,e1,(hk x hx).1,(hk x hx).2,hnew x hx⟩
theorem mapv_found {w:World} {l:List Ent} (hk:KeyOk l) {i k:Int} (hi:I64 i) (hkk:I64 k) {v:Bool×Bool×Int×Int} (hin:(i,k,v)∈l) (hu:∀ x∈l,x.1=i→x.2.1=k→x.2.2=v):∃ n,(Instr.findKey 146 (.agg #[.int .i64 (i),.int .i64 (k)]) (entL l)).run Tryz.prog w=.ok (some (n,.agg (vwA v))) w:=by
 obtain ⟨e0,he0,hk0⟩:=mem_entL hin
 cases hE:entL l with
 | nil=>rw [hE] at he0;cases he0
 | cons e es =>
  rw [findkey_ask,← hE]
  refine asking_some w hi hkk _ 0 0 _ (fun e' he'=>?_) ⟨e0,he0,hk0⟩
  obtain ⟨x,hx,e1,e2⟩:=entL_mem he'
  exact ⟨x.1,x.2.1,e1,(hk x hx).1,(hk x hx).2,fun h=>by rw [e2,hu x hx h.1.symm h.2.symm]⟩
theorem mapv_update {w:World} {b:Nat} {l:List Ent} (h:MapV w b l) (hk:KeyOk l) {i k:Int} (hi:I64 i) (hkk:I64 k) (hnew:∀ x∈l,¬ (i=x.1∧k=x.2.1)) (v:Bool×Bool×Int×Int) :
 (Instr.mapUpdate 141 (.map (some b)) (.agg #[.int .i64 (i),.int .i64 (k)]) (.agg (vwA v))).run Tryz.prog w=.ok () (w.putObj b (.map (entL (l++[(i,k,v)])).toArray (l.length+1))):=by
 have hu:(underlying 141).run Tryz.prog w=.ok (TypeDesc.map 146 64) w:=by kernel_rfl
 unfold Instr.mapUpdate
 simp only [Sem.run_bind,hu,Result.andThen_ok,Go.MapKept.run_getObj_map (P:=Tryz.prog) h,check_cell,mapv_key hk hi hkk hnew]
 rw [Go.MapKept.run_setObj_map (P:=Tryz.prog) _ h]
 unfold World.putObj
 rw [entL_snoc]
 simp
theorem mapv_put {w:World} {b:Nat} {l:List Ent} (h:MapV w b l) (i k:Int) (v:Bool×Bool×Int×Int):MapV (w.putObj b (.map (entL (l++[(i,k,v)])).toArray (l.length+1))) b (l++[(i,k,v)]):=by
 have hb:b<w.heap.size:=(Array.getElem?_eq_some_iff.1 h).1
 unfold MapV World.putObj
 rw [Array.getElem?_setIfInBounds_self_of_lt hb,List.length_append]
 rfl
theorem mapv_lookup {w:World} {b:Nat} {l:List Ent} (h:MapV w b l) (hk:KeyOk l) {i k:Int} (hi:I64 i) (hkk:I64 k) {v:Bool×Bool×Int×Int} (hin:(i,k,v)∈l) (huq:∀ x∈l,x.1=i→x.2.1=k→x.2.2=v) :
 (Instr.lookup 141 (.map (some b)) (.agg #[.int .i64 (i),.int .i64 (k)]) false).run Tryz.prog w=.ok (.agg (vwA v)) w:=by
 have hu:(underlying 141).run Tryz.prog w=.ok (TypeDesc.map 146 64) w:=by kernel_rfl
 obtain ⟨n,hn⟩:=mapv_found (w:=w) hk hi hkk hin huq
 unfold Instr.lookup
 simp only [Sem.run_bind,hu,Result.andThen_ok,Go.MapKept.run_getObj_map (P:=Tryz.prog) h,Sem.run_pure,check_cell,hn]
 rfl
theorem MapV.up {w W:World} {b:Nat} {l:List Ent} (h:MapV w b l) (hu:Up w W):MapV W b l:=(hu.below.block b (Array.getElem?_eq_some_iff.1 h).1).trans h
def tabU (R:Nat→OffD→List Ent) (offers:List OffD) (k j:Nat):List Ent:=((offers.take k).mapIdx R).flatten++(match offers[k]? with
 | some o=>(R k o).take j
 | none=>[])
theorem tabU_zero (R:Nat→OffD→List Ent) (offers:List OffD):tabU R offers 0 0=[]:=by
 unfold tabU
 cases offers <;> simp
theorem tabU_next {R:Nat→OffD→List Ent} {offers:List OffD} {k j:Nat} {o:OffD} {x:Ent} (ho:offers[k]?=some o) (hx:(R k o)[j]?=some x):tabU R offers k (j+1)=tabU R offers k j++[x]:=by
 unfold tabU
 rw [ho]
 dsimp only
 rw [List.take_add_one,hx,List.append_assoc]
 rfl
theorem tabU_row {R:Nat→OffD→List Ent} {offers:List OffD} {k j:Nat} {o:OffD} (ho:offers[k]?=some o) (hj:(R k o).length≤j):tabU R offers k j=tabU R offers (k+1) 0:=by
 unfold tabU
 rw [ho]
 dsimp only
 rw [List.take_of_length_le hj,List.take_add_one,ho,Option.toList_some,List.mapIdx_append,List.flatten_append]
 have hl:(offers.take k).length=k:=by
  have:=(List.getElem?_eq_some_iff.1 ho).1
  simp;omega
 cases offers[k+1]? <;> simp [hl]
theorem tabU_all {R:Nat→OffD→List Ent} {offers:List OffD} {k:Nat} (hk:offers.length≤k):tabU R offers k 0=(offers.mapIdx R).flatten:=by
 unfold tabU
 rw [List.take_of_length_le hk,List.getElem?_eq_none hk]
 simp
theorem tabU_mem {R:Nat→OffD→List Ent} {offers:List OffD} {k j:Nat} (hR:∀ (i:Nat) (o:OffD) (q:Nat) (x:Ent),(R i o)[q]?=some x→x.1=i∧x.2.1=q) (hl:∀ i o,o∈offers→(R i o).length≤1000) (hn:offers.length≤1000) {x:Ent} (hx:x∈tabU R offers k j) :
 (0≤x.1∧x.1≤1000)∧(0≤x.2.1∧x.2.1≤1000)∧(x.1<k∨(x.1=k∧x.2.1<j)):=by
 unfold tabU at hx
 rcases List.mem_append.1 hx with hx | hx
 · obtain ⟨row,hrow,hx⟩:=List.mem_flatten.1 hx
   obtain ⟨i,hi,rfl⟩:=List.getElem_of_mem hrow
   rw [List.getElem_mapIdx] at hx
   obtain ⟨q,hq,hxq⟩:=List.getElem_of_mem hx
   have h1:=hR i _ q x (by rw [List.getElem?_eq_getElem hq,hxq])
   have hi':i<(offers.take k).length:=by simpa using hi
   have hmem:(offers.take k)[i]∈offers:=List.mem_of_mem_take (List.getElem_mem hi')
   have h2:=hl i _ hmem
   simp at hi'
   omega
 · cases ho:offers[k]? with
   | none=>rw [ho] at hx;cases hx
   | some o =>
    rw [ho] at hx
    dsimp only at hx
    have hk:=(List.getElem?_eq_some_iff.1 ho).1
    have hx':=List.mem_of_mem_take hx
    obtain ⟨q,hq,hxq⟩:=List.getElem_of_mem hx
    rw [List.getElem_take] at hxq
    have hq2:q<(R k o).length:=by simp at hq;omega
    have hq3:q<j:=by simp at hq;omega
    have h1:=hR k o q x (by rw [List.getElem?_eq_getElem hq2,hxq])
    have h2:=hl k o (List.mem_of_getElem? ho)
    omega
theorem tabU_keyok {R:Nat→OffD→List Ent} {offers:List OffD} {k j:Nat} (hR:∀ (i:Nat) (o:OffD) (q:Nat) (x:Ent),(R i o)[q]?=some x→x.1=i∧x.2.1=q) (hl:∀ i o,o∈offers→(R i o).length≤1000) (hn:offers.length≤1000):KeyOk (tabU R offers k j)∧∀ x∈tabU R offers k j,¬ ((k:Int)=x.1∧(j:Int)=x.2.1):=by
 refine ⟨fun x hx=>?_,fun x hx h=>?_⟩
 · have:=tabU_mem hR hl hn hx
   unfold I64
   omega
 · have:=tabU_mem hR hl hn hx
   omega
theorem Keeps.put {K:Nat→Prop} {w W:World} (h:Keeps K w W) {D:Nat} (hD:¬ K D) (o:Obj):Keeps K w (W.putObj D o):=by
 refine h.trans ⟨by unfold World.putObj;simp,fun b hb hl=>?_⟩
 exact World.putObj_heap_other (fun e=>hD (e▸hb))
@[go_sem] theorem make_views (w:World):(Instr.makeMap 141 none).run Tryz.prog w=.ok (.map (some w.heap.size)) (w.alloc (.map #[] 0)):=by kernel_rfl
def cellA (b:BoxD):Ar4:=(b.x0,b.x1,b.y0,b.y1)
def cellsO (s:SkyD) (d:DriftD) (t:Int) (set:List BoxD) (o:OffD):List BoxD:=(propagateV s.bodies s.home d t (o.tick - t) set).1
def rowE (s:SkyD) (d:DriftD) (t:Int) (set:List BoxD) (i:Nat) (o:OffD):List Ent:=(cellsO s d t set o).mapIdx fun k b=>((i:Int),(k:Int),viewK (kndOf s o) (cellA b))
def tabE (s:SkyD) (d:DriftD) (t:Int) (set:List BoxD) (offers:List OffD):List Ent:=(offers.mapIdx (rowE s d t set)).flatten
theorem mapv_new {w:World} {B:Nat} {C:Array Value} {T:TypeId} (h:w.heap.size=B):MapV ((w.alloc (.map #[] 0)).alloc (.cells C T)) B []:=by
 subst h
 unfold MapV World.alloc
 simp [entL,Array.getElem?_push]
theorem watchE_zero {s:SkyD} {d:DriftD} {t:Int} {set:List BoxD} {offers:List OffD} (h:watchE s d t set offers=0):skyE s=0∧(propagateV s.bodies s.home d t 0 set).2=0∧(set.length≤100∧offers.length≤10)∧∀ o∈offers,offW s d t set o=0:=by
 unfold watchE at h
 by_cases h1:skyE s=0
 · rw [if_pos h1] at h
   by_cases h2:(propagateV s.bodies s.home d t 0 set).2=0
   · rw [if_pos h2] at h
     by_cases h3:100<set.length∨10<offers.length
     · rw [if_pos h3] at h;cases h
     · rw [if_neg h3] at h
       refine ⟨h1,h2,by omega,?_⟩
       clear h3
       induction offers with
       | nil=>intro o ho;cases ho
       | cons x l ih =>
        unfold firstE at h
        by_cases hx:offW s d t set x=0
        · rw [if_pos hx] at h
          intro o ho
          rcases List.mem_cons.1 ho with rfl | ho
          · exact hx
          · exact ih h o ho
        · rw [if_neg hx] at h;exact absurd h hx
   · rw [if_neg h2] at h;exact absurd h h2
 · rw [if_neg h1] at h;exact absurd h h1
theorem propagate_zero {bs:List Bod} {home:Int} {d:DriftD} {t m:Int} {l:List BoxD} (h:(propagateV bs home d t m l).2=0):∃ r,propV bs d m.toNat t l=some r∧(propagateV bs home d t m l).1=r∧(∀ b∈r,BOk b)∧r.length=l.length:=by
 unfold propagateV at h ⊢
 by_cases he:propE bs home d t m l=0
 · rw [if_pos he] at h ⊢
   obtain ⟨_,_,h3⟩:=propE_zero he
   obtain ⟨h4,h5⟩:=setE_zero h3
   have all:∀ (n:Nat) (r:List BoxD),propV bs d n t l=some r→(∀ b∈r,BOk b)∧r.length=l.length:=by
    intro n
    induction n with
    | zero=>intro r hr;cases hr;exact ⟨h5,rfl⟩
    | succ n ih =>
     intro r hr
     rw [propV_succ] at hr
     cases hq:propV bs d n t l with
     | none=>rw [hq] at hr;cases hr
     | some q =>
      rw [hq] at hr
      obtain ⟨e1,e2⟩:=stepsV_some (show stepsV bs d (t+n) q=some r from hr)
      exact ⟨e2,by rw [e1,List.length_map];exact (ih q hq).2⟩
   cases hq:propV bs d m.toNat t l with
   | none=>rw [hq] at h;cases h
   | some r=>exact ⟨r,rfl,rfl,all _ _ hq⟩
 · rw [if_neg he] at h;exact absurd h he
theorem offW_zero {s:SkyD} {d:DriftD} {t:Int} {set:List BoxD} {o:OffD} (h:offW s d t set o=0):offE s o=0∧(t≤o.tick∧o.tick≤t+400)∧(propagateV s.bodies s.home d t (o.tick - t) set).2=0∧(∀ b∈cellsO s d t set o,BOk b)∧(cellsO s d t set o).length=set.length:=by
 unfold offW at h
 by_cases h1:offE s o=0
 · rw [if_pos h1] at h
   by_cases h2:withinB o.tick t (t+400)=true
   · rw [if_pos h2] at h
     obtain ⟨r,_,e,h4,h5⟩:=propagate_zero h
     exact ⟨h1,by simpa [withinB] using h2,h,by unfold cellsO;rw [e];exact h4,by unfold cellsO;rw [e];exact h5⟩
   · rw [if_neg h2] at h;cases h
 · rw [if_neg h1] at h;exact absurd h h1
theorem cellA_bd {b:BoxD} (h:BOk b):ABd (cellA b):=⟨⟨h.x.1,h.x.2.1,h.x.2.2⟩,h.y.1,h.y.2.1,h.y.2.2⟩
structure PlanS (w:World) (sky dr pl:Array Value) (l:List Ent) (W:World):Prop where
 u:Up w W
 s:Box W w.heap.size sky 29
 d:Box W (w.heap.size+1) dr 33
 p:Box W (w.heap.size+1+1+1) pl 143
 m:MapV W (w.heap.size+1+1) l
theorem PlanS.up {w W V:World} {sky dr pl:Array Value} {l:List Ent} (h:PlanS w sky dr pl l W) (hu:Up W V):PlanS w sky dr pl l V:=⟨h.u.trans hu,h.s.up hu,h.d.up hu,h.p.up hu,h.m.up hu⟩
theorem PlanS.put {w W:World} {sky dr pl:Array Value} {l:List Ent} (h:PlanS w sky dr pl l W) (i k:Int) (v:Bool×Bool×Int×Int):PlanS w sky dr pl (l++[(i,k,v)]) (W.putObj (w.heap.size+1+1) (.map (entL (l++[(i,k,v)])).toArray (l.length+1))) :=
 ⟨.of_below (below_put h.u.below (by omega) _),h.s.put (by omega) _,h.d.put (by omega) _,h.p.put (by omega) _,mapv_put h.m i k v⟩
theorem newplan_any {K:Nat→Prop} {w:World} {a sa ca:Option Addr} {n c sn sc cn cc:Nat} {s:SkyD} (hL:SkyL K w a n c sa sn sc ca cn cc s) (d:DriftD) (t:Int) {KB:Nat→Prop} {ba:Option Addr} {bn bc:Nat} {set:List BoxD} (hB:Boxes KB w (.slice ba bn bc) set) {KO:Nat→Prop} {oa:Option Addr} {on oc:Nat} {offers:List OffD} (hO:Lst TOff KO w (.slice oa on oc) offers) (hW:watchE s d t set offers=0):Calls Tryz.prog 47 #[.agg #[.slice a n c,.int .i64 s.home,.slice sa sn sc,.slice ca cn cc],.agg #[.int .i64 (d.l.1),.int .i64 (d.l.2),.int .i64 (d.h.1),.int .i64 (d.h.2),.int .i64 (d.g)],.int .i64 t,.slice ba bn bc,.slice oa on oc] w fun e W=>∃ p:Ext,e=.returned (.pointer (some ⟨w.heap.size+1+1+1,0,none⟩))∧W=ext w p∧Box W (w.heap.size+1+1+1) #[.slice oa on oc,.int .i64 bn,.map (some (w.heap.size+1+1))] 143∧MapV W (w.heap.size+1+1) (tabE s d t set offers):=by
 have HO:=hide hO
 have hon:=(Offs.at hO).1
 have hom:=(Offs.at hO).2.1
 obtain ⟨hs0,hp0,hlen,hoff⟩:=watchE_zero hW
 have ht:=prop_tick hp0
 have HP:=hide (fun (m:Int) W (hu:Up w W)=>opropagate_any (hL.up hu).b (hL.up hu).h d (hB.keeps (hu.keeps KB)) t m)
 have HK:=hide (fun (o:OffD) (ho:offE s o=0) W (hu:Up w W)=>wof_any (hL.up hu).b (hL.up hu).h (hL.up hu).st (hL.up hu).ca ho)
 have HV:=hide (fun (o:OffD) (ho:offE s o=0) (b:BoxD) (hb:BOk b) W=>wview_k (kbd_of ho) (cellA_bd hb) W)
 have HF:=hide (fun (o:OffD) (ho:o∈offers)=>offW_zero (hoff o ho))
 have htt:0≤t∧t≤1073741824:=⟨ht.2.1,ht.2.2.1⟩
 have HN:=hide (And.intro hon hlen)
 have hon10:on≤10:=by omega
 obtain ⟨R,hR⟩:∃ R,R=rowE s d t set:=⟨_,rfl⟩
 have HR:=hide (show (∀ (i:Nat) (o:OffD) (q:Nat) (x:Ent),(R i o)[q]?=some x→x.1=i∧x.2.1=q)∧(∀ i o,o∈offers→(R i o).length≤1000)∧(∀ (i:Nat) (o:OffD) (q:Nat) (b:BoxD),(cellsO s d t set o)[q]?=some b→(R i o)[q]?=some ((i:Int),(q:Int),viewK (kndOf s o) (cellA b)))∧(∀ i o,(R i o).length=(cellsO s d t set o).length) from by
  rw [hR]
  refine ⟨fun i o q x h=>?_,fun i o ho=>?_,fun i o q b h=>?_,fun i o=>by unfold rowE;simp⟩
  · unfold rowE at h
    rw [List.getElem?_mapIdx] at h
    obtain ⟨b,_,rfl⟩:=Option.map_eq_some_iff.1 h
    exact ⟨rfl,rfl⟩
  · unfold rowE
    have:=(offW_zero (hoff o ho)).2.2.2.2
    simp only [List.length_mapIdx]
    omega
  · unfold rowE
    rw [List.getElem?_mapIdx,h]
    rfl)
 rw [show tabE s d t set offers=(offers.mapIdx R).flatten by rw [hR];rfl]
 have HPL:=hide (fun (o:OffD)=>show (propagateV s.bodies s.home d t (o.tick - t) set).1=cellsO s d t set o from rfl)
 generalize s.home=home at *
 clear hO hL hB hon hom hW hs0 hp0 hlen hoff ht hR
 go_enter Tryz.func47,Tryz.ntmps47
 go_wp2_with fail
 refine forgetW (fun wr=>PlanS w #[.slice a n c,.int .i64 home,.slice sa sn sc,.slice ca cn cc] #[.int .i64 (d.l.1),.int .i64 (d.l.2),.int .i64 (d.h.1),.int .i64 (d.h.2),.int .i64 (d.g)] #[.slice oa on oc,.int .i64 bn,.map (some (w.heap.size+1+1))] (tabU R offers 0 0) wr) ⟨Up.go,Box.go,Box.go,Box.go,by rw [tabU_zero];exact mapv_new (by simp)⟩ ?_
 intro V0 h0
 have H0:=hide h0
 clear h0
 go_loopw [27] (fun s27 wr=>∃ k:Nat,k≤on∧s27=.int .i64 k∧Hid (PlanS w #[.slice a n c,.int .i64 home,.slice sa sn sc,.slice ca cn cc] #[.int .i64 (d.l.1),.int .i64 (d.l.2),.int .i64 (d.h.1),.int .i64 (d.h.2),.int .i64 (d.g)] #[.slice oa on oc,.int .i64 bn,.map (some (w.heap.size+1+1))] (tabU R offers k 0) wr)) (fun s27 _=>on - (intOf s27).toNat)
 case atStart=>exact ⟨0,by omega,rfl,H0⟩
 case round =>
  obtain ⟨k,hk,rfl,HI⟩:=hrel
  clear H0
  obtain ⟨s0,s1,s2,s3⟩:=(HI.out).s.c4
  have ls:=(HI.out).s.lt
  obtain ⟨dd0,dd1,dd2,dd3,dd4⟩:=(HI.out).d.c5
  have ldd:=(HI.out).d.lt
  obtain ⟨pw0,pw1,pw2⟩:=(HI.out).p.c3
  have lpw:=(HI.out).p.lt
  by_cases hlt:k<on
  · have hkb:decide ((k:Int)<on)=true:=by simp;omega
    have hkn:decide (k<on)=true:=by simp;omega
    obtain ⟨ob,oo,o,rfl,_,how,hp,f0,f1,f2,f3,f4,f5,f6,f7,f8,f9,f10⟩:=(Offs.at (HO.out.keeps (HI.out.u.keeps KO))).2.2 k hlt
    have hmem:=List.mem_of_getElem? hp
    obtain ⟨g1,g2,g3,g4,g5⟩:=HF.out o hmem
    have HPo:=hide (HP.out (o.tick - t))
    have HKo:=hide (HK.out o g1)
    have HVo:=hide (HV.out o g1)
    have HG:=hide (And.intro hp (And.intro g4 g5))
    have htk:=g2
    have otk:0≤o.tick∧o.tick≤1073742224:=by omega
    clear hp hmem g1 g2 g3 g4 g5
    go_wp2_with fail
    go_at_call 43
    obtain ⟨go,hgo⟩:∃ g,g=wr.heap.size:=⟨_,rfl⟩
    try rw [← hgo]
    refine forgetK (fun V=>PlanS w #[.slice a n c,.int .i64 home,.slice sa sn sc,.slice ca cn cc] #[.int .i64 (d.l.1),.int .i64 (d.l.2),.int .i64 (d.h.1),.int .i64 (d.h.2),.int .i64 (d.g)] #[.slice (some ⟨ob,oo,none⟩) on oc,.int .i64 bn,.map (some (w.heap.size+1+1))] (tabU R offers k 0) V∧Box V go (offA o) 50) ⟨HI.out.up ((Up.refl _).alloc _),by rw [hgo];exact Box.mk rfl⟩ ?_
    clear hgo f0 f1 f2 f3 f4 f5 f6 f7 f8 f9 f10 HI how s0 s1 s2 s3 ls dd0 dd1 dd2 dd3 dd4 ldd pw0 pw1 pw2 lpw
    rintro V1 ⟨h1,hb⟩
    obtain ⟨o0,o1,o2,o3,o4,o5,o6,o7,o8,o9,o10⟩:=hb.c11
    have lo9:=hb.lt
    have HI:=hide h1
    obtain ⟨s0,s1,s2,s3⟩:=(HI.out).s.c4
    have ls:=(HI.out).s.lt
    obtain ⟨dd0,dd1,dd2,dd3,dd4⟩:=(HI.out).d.c5
    have ldd:=(HI.out).d.lt
    obtain ⟨pw0,pw1,pw2⟩:=(HI.out).p.c3
    have lpw:=(HI.out).p.lt
    clear h1 hb
    refine (HPo.out _ (Up.viz HI.out.u)).mono ?_
    rintro _ _ ⟨a1,n1,c1,p1,rfl,hbx,rfl⟩
    rw [HPL.out o] at hbx
    have HBX:=hide hbx
    clear hbx
    go_wp2_with fail
    go_at_call 50
    refine (HKo.out _ (Up.viz HI.out.u)).mono ?_
    intro p2
    go_wp2_with fail
    have hn1:=(Boxes.at HBX.out).1
    have hlen1:n1=set.length:=by rw [hn1];exact HG.out.2.2
    have HN1:=hide hn1
    have hn100:n1≤100:=by have:=HN.out.2.1;omega
    clear hn1 hlen1
    refine forgetW (fun V=>PlanS w #[.slice a n c,.int .i64 home,.slice sa sn sc,.slice ca cn cc] #[.int .i64 (d.l.1),.int .i64 (d.l.2),.int .i64 (d.h.1),.int .i64 (d.h.2),.int .i64 (d.g)] #[.slice (some ⟨ob,oo,none⟩) on oc,.int .i64 bn,.map (some (w.heap.size+1+1))] (tabU R offers k 0) V∧Boxes (fun b=>w.heap.size+1+1+1<b) V (.slice a1 n1 c1) (cellsO s d t set o)) ⟨HI.out.up ((Up.refl _).ext _),by rw [← ext_ext];exact boxes_of (((of_boxes HBX.out).up ((Up.refl _).ext _)).mono fun b _ hb=>by have:=HI.out.p.lt;omega)⟩ ?_
    clear HI HBX s0 s1 s2 s3 ls dd0 dd1 dd2 dd3 dd4 ldd pw0 pw1 pw2 lpw lo9 o0 o1 o2 o3 o4 o5 o6 o7 o8 o9 o10
    intro V5 h5
    have H5:=hide h5
    clear h5
    generalize kndV (kndOf s o)=KV at *
    go_loopw [50] (fun s50 wr=>∃ j:Nat,j≤n1∧s50=.int .i64 j∧Hid (PlanS w #[.slice a n c,.int .i64 home,.slice sa sn sc,.slice ca cn cc] #[.int .i64 (d.l.1),.int .i64 (d.l.2),.int .i64 (d.h.1),.int .i64 (d.h.2),.int .i64 (d.g)] #[.slice (some ⟨ob,oo,none⟩) on oc,.int .i64 bn,.map (some (w.heap.size+1+1))] (tabU R offers k j) wr∧Boxes (fun b=>w.heap.size+1+1+1<b) wr (.slice a1 n1 c1) (cellsO s d t set o))) (fun s50 _=>n1 - (intOf s50).toNat)
    case atStart=>exact ⟨0,by omega,rfl,H5⟩
    case round =>
     obtain ⟨j,hj,rfl,HJ⟩:=hrel
     clear H5
     obtain ⟨s0,s1,s2,s3⟩:=(HJ.out.1).s.c4
     have ls:=(HJ.out.1).s.lt
     obtain ⟨dd0,dd1,dd2,dd3,dd4⟩:=(HJ.out.1).d.c5
     have ldd:=(HJ.out.1).d.lt
     obtain ⟨pw0,pw1,pw2⟩:=(HJ.out.1).p.c3
     have lpw:=(HJ.out.1).p.lt
     by_cases hlj:j<n1
     · have hjb:decide ((j:Int)<n1)=true:=by simp;omega
       have hjn:decide (j<n1)=true:=by simp;omega
       obtain ⟨b2,o2',b,rfl,hK2,hb2w,hpb,c0,c1',c2,c3,c4,c5,c6,c7⟩:=(Boxes.at HJ.out.2).2.2 j hlj
       have hbk:=HG.out.2.1 b (List.mem_of_getElem? hpb)
       have HVb:=hide (HVo.out b hbk)
       have HX:=hide (HR.out.2.2.1 k o j b hpb)
       obtain ⟨v,hv⟩:∃ v,viewK (kndOf s o) (cellA b)=v:=⟨_,rfl⟩
       rw [hv] at HVb HX
       clear hpb hbk hv
       obtain ⟨x0,x1,y0,y1,u0,u1,v0,v1⟩:=b
       obtain ⟨vm,vs,vl,vh⟩:=v
       unfold cellA viewA at HVb
       dsimp only at HVb c0 c1' c2 c3 c4 c5 c6 c7
       have hkk:=tabU_keyok (k:=k) (j:=j) HR.out.1 HR.out.2.1 (by have:=HN.out.2.2;omega)
       have hik:I64 (k:Int):=by unfold I64;omega
       have hij:I64 (j:Int):=by unfold I64;omega
       go_wp2_with fail
       obtain ⟨gb,hgb⟩:∃ g,g=wr.heap.size:=⟨_,rfl⟩
       try rw [← hgb]
       refine forgetW (fun V=>PlanS w #[.slice a n c,.int .i64 home,.slice sa sn sc,.slice ca cn cc] #[.int .i64 (d.l.1),.int .i64 (d.l.2),.int .i64 (d.h.1),.int .i64 (d.h.2),.int .i64 (d.g)] #[.slice (some ⟨ob,oo,none⟩) on oc,.int .i64 bn,.map (some (w.heap.size+1+1))] (tabU R offers k j) V∧Boxes (fun b=>w.heap.size+1+1+1<b) V (.slice (some ⟨b2,o2',none⟩) n1 c1) (cellsO s d t set o)∧Box V gb #[.int .i64 (x0),.int .i64 (x1),.int .i64 (y0),.int .i64 (y1),.int .i64 (u0),.int .i64 (u1),.int .i64 (v0),.int .i64 (v1)] 69) ⟨HJ.out.1.up ((Up.refl _).alloc _),boxes_of ((of_boxes HJ.out.2).up ((Up.refl _).alloc _)),by rw [hgb];exact Box.mk rfl⟩ ?_
       clear hgb c0 c1' c2 c3 c4 c5 c6 c7 hb2w hK2 HJ s0 s1 s2 s3 ls dd0 dd1 dd2 dd3 dd4 ldd pw0 pw1 pw2 lpw
       rintro V6 ⟨h6,hl6,hb6⟩
       have HJ:=hide (And.intro h6 hl6)
       obtain ⟨s0,s1,s2,s3⟩:=(HJ.out.1).s.c4
       have ls:=(HJ.out.1).s.lt
       obtain ⟨dd0,dd1,dd2,dd3,dd4⟩:=(HJ.out.1).d.c5
       have ldd:=(HJ.out.1).d.lt
       obtain ⟨pw0,pw1,pw2⟩:=(HJ.out.1).p.c3
       have lpw:=(HJ.out.1).p.lt
       obtain ⟨b0,b1,b2,b3,b4,b5,b6,b7⟩:=hb6.c8
       have lb9:=hb6.lt
       have hmu:=fun q:Ext=>mapv_update (HJ.out.1.up ((Up.refl V6).ext q)).m hkk.1 hik hij hkk.2 (vm,vs,vl,vh)
       clear h6 hl6 hb6 hkk
       ((first | with_reducible refine wp_region_ext_tail2 1 (by kernel_rfl) (by kernel_rfl) ?_ | refine wp_region_ext_tail 1 (by kernel_rfl) (by kernel_rfl) ?_);simp only [List.length_cons,List.length_nil,Nat.reduceAdd,Nat.reduceSub,List.take_succ_cons,List.take_zero,List.drop_succ_cons,List.drop_zero];(repeat (go_big_quiet_step ((go_at_call 52;with_reducible exact Gives.inRegion (HVb.out _)))));refine wpQuiet_nil ?_;intro _ hw';obtain ⟨_,hw''⟩:=hw';subst hw'')
       go_wp2_with fail
       go_roundw
       case rel=>exact ⟨j+1,by omega,by go_num,hide ⟨by rw [tabU_next HG.out.1 HX.out];exact (HJ.out.1.up ((Up.refl _).ext _)).put k j (vm,vs,vl,vh),boxes_of ((of_boxes HJ.out.2).keeps (Keeps.put ((Up.ext (Up.refl V6) _).keeps _) (by omega) _))⟩⟩
       case measure=>simp [intOf];omega
     · have hjb:decide ((j:Int)<n1)=false:=by simp;omega
       have hjn:decide (j<n1)=false:=by simp;omega
       have HE:=hide (tabU_row (R:=R) (j:=j) HG.out.1 (by have h1:=HN1.out;have h2:=HR.out.2.2.2 k o;omega))
       go_wp2_with fail
       go_roundw
       case rel=>exact ⟨k+1,by omega,by go_num,hide (by rw [← HE.out];exact HJ.out.1)⟩
       case measure=>simp [intOf];omega
  · have hkb:decide ((k:Int)<on)=false:=by simp;omega
    have hkn:decide (k<on)=false:=by simp;omega
    have HE:=hide (tabU_all (R:=R) (offers:=offers) (k:=k) (by have:=HN.out.1;omega))
    go_wp2
    refine forgetW (fun V=>PlanS w #[.slice a n c,.int .i64 home,.slice sa sn sc,.slice ca cn cc] #[.int .i64 (d.l.1),.int .i64 (d.l.2),.int .i64 (d.h.1),.int .i64 (d.h.2),.int .i64 (d.g)] #[.slice oa on oc,.int .i64 bn,.map (some (w.heap.size+1+1))] (tabU R offers k 0) V) HI.out ?_
    rintro V hV
    obtain ⟨p,hp⟩:=hV.u
    exact bodyPost_ret (v:=.pointer (some ⟨w.heap.size+1+1+1,0,none⟩)) (by simp [results,Tryz.results47,go_sem]) rfl ⟨p,rfl,hp,hV.p,by rw [← HE.out];exact hV.m⟩
theorem wmixed_any (x y:Bool×Bool×Int×Int) (w:World):Gives Tryz.prog 53 #[.agg (viewA x),.agg (viewA y)] w (.bool (mixedB x y)):=by
 obtain ⟨x1,x2,x3,x4⟩:=x
 obtain ⟨y1,y2,y3,y4⟩:=y
 have HM:=hide (fun W=>meet_any x3 x4 y3 y4 W)
 unfold mixedB viewA
 dsimp only
 generalize meetS x3 x4 y3 y4=M at *
 obtain ⟨M1,M2,M3⟩:=M
 dsimp only at *
 (unfold Gives;go_enter Tryz.func53,Tryz.ntmps53)
 go_wp2_with fail
 go_at_call 97
 refine (HM.out _).mono ?_
 intro p1
 go_wp2
 all_goals (go_ret;refine ⟨ret_bool ?_,Up.go⟩)
 all_goals (simp_all)
theorem vbetween_any (n lo hi:Int) (w:World):Gives Tryz.prog 106 #[.int .i64 n,.int .i64 lo,.int .i64 hi] w (.bool (withinB n lo hi)):=by
 unfold withinB
 (unfold Gives;go_enter Tryz.func106,Tryz.ntmps106)
 go_wp2
 all_goals (go_ret;refine ⟨?_,Up.go⟩)
 all_goals (go_light;first|(simp_all [withinB];done)|(simp_all [withinB];omega)|(simp_all [withinB];repeat' split;all_goals (first|(simp_all;done)|omega|(simp_all;omega))))
theorem tdiv_cases {a b:Int} (hb:0<b):(¬ a<a.tdiv b*b∧a.tdiv b=a / b∧a - b<a.tdiv b*b)∨(a<a.tdiv b*b∧a.tdiv b - 1=a / b∧a.tdiv b*b≤a+b):=by
 have h1:=Int.mul_tdiv_add_tmod a b
 have h4:=Int.mul_ediv_add_emod a b
 have h5:=Int.emod_nonneg a (show b≠0 by omega)
 have h6:=Int.emod_lt_of_pos a hb
 have h7:a % b=if a.tmod b<0 then a.tmod b+b else a.tmod b:=by
  by_cases ha:a<0
  · exact (tmod_neg a b ha hb).2.2
  · rw [Int.tmod_eq_emod_of_nonneg (by omega),if_neg (by omega)]
 have e1:a.tdiv b*b=b*a.tdiv b:=Int.mul_comm _ _
 rw [e1]
 generalize a.tmod b=t at *
 generalize a % b=e at *
 generalize a.tdiv b=q at *
 generalize a / b=r at *
 have h8:b*q - b*r=e - t:=by omega
 by_cases ht:t<0
 · rw [if_pos ht] at h7
   right
   have h9:b*(q - r - 1)=0:=by
    have:b*(q - r - 1)=b*q - b*r - b:=by rw [Int.mul_sub,Int.mul_sub,Int.mul_one]
    omega
   rcases Int.mul_eq_zero.1 h9 with h | h
   · omega
   · exact ⟨by omega,by omega,by omega⟩
 · rw [if_neg ht] at h7
   left
   have h9:b*(q - r)=0:=by
    have:b*(q - r)=b*q - b*r:=Int.mul_sub _ _ _
    omega
   rcases Int.mul_eq_zero.1 h9 with h | h
   · omega
   · exact ⟨by omega,by omega,by omega⟩
theorem vfloor_any {a b:Int} (hb:0<b) (b1:b≤1152921504606846976) (a0:-1152921504606846976≤a∧a≤1152921504606846976) (w:World):Gives Tryz.prog 163 #[.int .i64 a,.int .i64 b] w (.int .i64 (a / b)):=by
 have hne:b≠0:=by omega
 by_cases ha:a<0
 · have hc:=tdiv_cases (a:=a) hb
   obtain ⟨q,hq⟩:∃ q,a.tdiv b=q:=⟨_,rfl⟩
   rw [hq] at hc
   have hq2:-1152921504606846976≤q∧q≤1152921504606846976:=by
    have h1:=Int.natAbs_tdiv a b
    rw [hq] at h1
    have h3:q.natAbs≤a.natAbs:=by rw [h1];exact Nat.div_le_self a.natAbs b.natAbs
    clear h1
    omega
   obtain ⟨m,hm⟩:∃ m,q*b=m:=⟨_,rfl⟩
   rw [hm] at hc
   rcases hc with ⟨h1,h2,h3⟩ | ⟨h1,h2,h3⟩
   · rw [← h2]
     clear h2
     (unfold Gives;go_enter Tryz.func163,Tryz.ntmps163)
     go_wp2
     go_ret
     exact ⟨rfl,Up.go⟩
   · rw [← h2]
     clear h2
     (unfold Gives;go_enter Tryz.func163,Tryz.ntmps163)
     go_wp2
     go_ret
     exact ⟨rfl,Up.go⟩
 · have h4:=Int.mul_ediv_add_emod a b
   have h5:=Int.emod_nonneg a hne
   have h6:=Int.emod_lt_of_pos a hb
   have h7:=Int.ediv_nonneg (a:=a) (b:=b) (by omega) (by omega)
   have h8:=Int.ediv_le_self (a:=a) b (by omega)
   have hq:=Int.tdiv_eq_ediv_of_nonneg (a:=a) (b:=b) (by omega)
   obtain ⟨q,hq2⟩:∃ q,a / b=q:=⟨_,rfl⟩
   rw [hq2] at h4 h7 h8 hq ⊢
   obtain ⟨m,hm⟩:∃ m,q*b=m:=⟨_,rfl⟩
   rw [Int.mul_comm b q,hm] at h4
   have h1:¬ a<m:=by omega
   have h9:a - b<m:=by omega
   clear h4 h5 h6
   (unfold Gives;go_enter Tryz.func163,Tryz.ntmps163)
   go_wp2
   go_ret
   exact ⟨rfl,Up.go⟩
theorem vceil_any {a b:Int} (hb:0<b) (b1:b≤1152921504606846976) (a0:-1152921504606846976≤a∧a≤1152921504606846976) (w:World):Gives Tryz.prog 162 #[.int .i64 a,.int .i64 b] w (.int .i64 (-(-a / b))):=by
 have HF:=hide (fun W=>vfloor_any (a:=-a) hb b1 (by omega) W)
 have h1:-2305843009213693953 ≤ -a / b ∧ -a / b≤1152921504606846976:=by
  have h4:=Int.mul_ediv_add_emod (-a) b
  have h5:=Int.emod_nonneg (-a) (show b≠0 by omega)
  have h6:=Int.emod_lt_of_pos (-a) hb
  rcases Int.le_total 0 (-a / b) with h | h
  · have:=Int.mul_le_mul_of_nonneg_right (show 1≤b by omega) h
    omega
  · have:=Int.mul_le_mul_of_nonpos_right (show 1≤b by omega) h
    omega
 generalize -a / b=q at *
 (unfold Gives;go_enter Tryz.func162,Tryz.ntmps162)
 go_wp2_with (go_at_call 163;refine (HF.out _).mono ?_;intro _)
 go_ret
 exact ⟨rfl,Up.go⟩
theorem vsquare_any {x y:Int} (hx:-70000000≤x∧x≤70000000) (hy:-70000000≤y∧y≤70000000) (w:World):Gives Tryz.prog 159 #[.agg #[.int .i64 (x),.int .i64 (y)]] w (.int .i64 (x*x+y*y)):=by
 have m1:=mul_abs hx.1 hx.2 hx.1 hx.2
 have m2:=mul_abs hy.1 hy.2 hy.1 hy.2
 have e:(70000000:Int)*70000000=4900000000000000:=by decide
 rw [e] at m1 m2
 (unfold Gives;go_enter Tryz.func159,Tryz.ntmps159)
 go_wp2
 go_ret
 exact ⟨rfl,Up.go⟩
theorem rootV_nonneg {n:Int} (h:0≤n):rootV n=isq n:=by
 unfold rootV
 rw [if_neg (by omega)]
theorem vrootup_any {n:Int} (h0:0≤n) (h1:n≤4611686018427387904) (w:World):Gives Tryz.prog 160 #[.int .i64 n] w (.int .i64 (upq n)):=by
 have HR:=hide (fun W=>rRoot_any n (by omega) (by omega) W)
 rw [rootV_nonneg h0] at HR
 obtain ⟨a0,a1,a2⟩:=isq_spec n h0 (by omega)
 unfold upq
 have a3:isq n≤4611686018427387904:=by
  rcases Int.le_total (isq n) 1 with h | h
  · omega
  · have:=Int.mul_le_mul_of_nonneg_right h a0
    omega
 generalize isq n=r at *
 have a4:0≤r*r:=Int.mul_nonneg a0 a0
 clear a2
 by_cases hc:r*r<n
 · rw [if_pos hc]
   (unfold Gives;go_enter Tryz.func160,Tryz.ntmps160)
   go_wp2_with (go_at_call 161;refine (HR.out _).mono ?_;intro _)
   go_ret
   exact ⟨rfl,Up.go⟩
 · rw [if_neg hc]
   (unfold Gives;go_enter Tryz.func160,Tryz.ntmps160)
   go_wp2_with (go_at_call 161;refine (HR.out _).mono ?_;intro _)
   go_ret
   exact ⟨rfl,Up.go⟩
theorem any_found {α:Type} {f:α→Bool} {l:List α} {k:Nat} {p:α} (hp:l[k]?=some p) (h:f p=true):l.any f=true:=List.any_eq_true.2 ⟨p,List.mem_of_getElem? hp,h⟩
theorem any_none {α:Type} {f:α→Bool} {l:List α} (h:noneYet f l l.length):l.any f=false:=by
 rw [List.any_eq_false]
 intro x hx
 obtain ⟨i,hi,rfl⟩:=List.getElem_of_mem hx
 have:=h i l[i] hi (List.getElem?_eq_getElem hi)
 simpa using this
theorem vhas_any {K:Nat→Prop} {w:World} {a sa ca:Option Addr} {n c sn sc cn cc:Nat} {l:List (Int×Int×Int)} {home:Int} (hs:Tris K w (.slice sa sn sc) l) (id:Int) :
 Gives Tryz.prog 148 #[.agg #[.slice a n c,.int .i64 home,.slice sa sn sc,.slice ca cn cc],.int .i64 id] w (.bool (l.any fun x=>x.1==id)):=by
 have HS:=hide hs
 have hm:=(Tris.at hs).2.1
 have HN:=hide (Tris.at hs).1
 clear hs
 (unfold Gives;go_enter Tryz.func148,Tryz.ntmps148)
 go_wp2_with fail
 refine forgetW (fun V=>Up w V∧Box V w.heap.size #[.slice a n c,.int .i64 home,.slice sa sn sc,.slice ca cn cc] 29) ⟨Up.go,Box.go⟩ ?_
 rintro V0 ⟨hu0,b0⟩
 have H0:=hide (show (Up w V0∧Box V0 w.heap.size #[.slice a n c,.int .i64 home,.slice sa sn sc,.slice ca cn cc] 29)∧noneYet (fun x:Int×Int×Int=>x.1==id) l 0 from ⟨⟨hu0,b0⟩,fun i p hi _=>by omega⟩)
 clear hu0 b0
 go_loopw [5] (fun s5 wr=>∃ k:Nat,s5=.int .i64 k∧k≤sn∧Hid ((Up w wr∧Box wr w.heap.size #[.slice a n c,.int .i64 home,.slice sa sn sc,.slice ca cn cc] 29)∧noneYet (fun x:Int×Int×Int=>x.1==id) l k)) (fun q _=>sn - (intOf q).toNat)
 case atStart=>exact ⟨0,by go_num,by omega,H0⟩
 case round =>
  obtain ⟨k,rfl,hk,hJ⟩:=hrel
  clear H0
  have x2:=hJ.out.1.2.cell 2 rfl
  have lx:=hJ.out.1.2.lt
  by_cases hlt:k<sn
  · have hkb:decide ((k:Int)<sn)=true:=by simp;omega
    have hkn:decide (k<sn)=true:=by simp;omega
    obtain ⟨b0,o0,p,ea,_,hb0,hp,hI,d0,d1,d2⟩:=(Tris.at (HS.out.keeps (hJ.out.1.1.keeps K))).2.2 k hlt
    subst ea
    have HP:=hide hp
    clear hp hI
    obtain ⟨p0,p1,p2⟩:=p
    dsimp only at d0 d1 d2
    by_cases h1:p0=id
    · have h1b:(p0==id)=true:=by simpa using h1
      have HF:=hide (show (l.any fun x=>x.1==id)=true from any_found HP.out h1b)
      clear h1
      go_wp2
      go_ret
      exact ⟨ret_bool (by rw [HF.out]),(Up.via hJ.out.1.1)⟩
    · have h1b:(p0==id)=false:=by simpa using h1
      have HF:=hide (hJ.out.2.succ HP.out h1b)
      replace h1:=hide h1
      go_wp2
      go_roundw
      case rel=>exact ⟨k+1,by go_num,by omega,hide ⟨⟨(Up.via hJ.out.1.1),(Box.via hJ.out.1.2)⟩,HF.out⟩⟩
      case measure=>simp [intOf];omega
  · have hkb:decide ((k:Int)<sn)=false:=by simp;omega
    have hkn:decide (k<sn)=false:=by simp;omega
    have HF:=hide (show (l.any fun x=>x.1==id)=false from any_none (by have:=hJ.out.2;rwa [show k=l.length by have:=HN.out;omega] at this))
    go_wp2
    go_ret
    exact ⟨ret_bool (by rw [HF.out]),(Up.via hJ.out.1.1)⟩
def biasV (l:List (Int×Int×Int)) (v:Int):(Int×Int)×Bool:=match l.find? (fun x=>x.1==v) with
 | some x=>(x.2,true)
 | none=>((0,0),false)
theorem find_found {f:Int×Int×Int→Bool}:∀ {l:List (Int×Int×Int)} {k:Nat} {p:Int×Int×Int},noneYet f l k→l[k]?=some p→f p=true→l.find? f=some p
 | [],k,p,_,hp,_=>by simp at hp
 | x::l,0,p,_,hp,h=>by
  obtain rfl:x=p:=by simpa using hp
  rw [List.find?_cons,h]
 | x::l,k+1,p,hn,hp,h=>by
  have hx:f x=false:=hn 0 x (by omega) rfl
  rw [List.find?_cons,hx]
  exact find_found (fun i q hi hq=>hn (i+1) q (Nat.succ_lt_succ hi) (by simpa using hq)) (by simpa using hp) h
theorem biasV_found {l:List (Int×Int×Int)} {v:Int} {k:Nat} {p:Int×Int×Int} (hn:noneYet (fun x:Int×Int×Int=>x.1==v) l k) (hp:l[k]?=some p) (h:(p.1==v)=true):biasV l v=(p.2,true):=by
 unfold biasV
 rw [find_found hn hp h]
theorem biasV_none {l:List (Int×Int×Int)} {v:Int} (h:noneYet (fun x:Int×Int×Int=>x.1==v) l l.length):biasV l v=((0,0),false):=by
 unfold biasV
 have:=any_none h
 rw [List.any_eq_false] at this
 rw [List.find?_eq_none.2 (fun x hx=>by simpa using this x hx)]
theorem vbias_any {K:Nat→Prop} {w:World} {a sa ca:Option Addr} {n c sn sc cn cc:Nat} {l:List (Int×Int×Int)} {home:Int} (hs:Tris K w (.slice ca cn cc) l) (v:Int) :
 Gives Tryz.prog 149 #[.agg #[.slice a n c,.int .i64 home,.slice sa sn sc,.slice ca cn cc],.int .i64 v] w (.tuple #[.agg #[.int .i64 ((biasV l v).1.1),.int .i64 ((biasV l v).1.2)],.bool (biasV l v).2]):=by
 have HS:=hide hs
 have hm:=(Tris.at hs).2.1
 have HN:=hide (Tris.at hs).1
 clear hs
 (unfold Gives;go_enter Tryz.func149,Tryz.ntmps149)
 go_wp2_with fail
 refine forgetW (fun V=>Up w V∧Box V w.heap.size #[.slice a n c,.int .i64 home,.slice sa sn sc,.slice ca cn cc] 29∧Box V (w.heap.size+1) #[.int .i64 (0),.int .i64 (0)] 31) ⟨Up.go,Box.go,Box.go⟩ ?_
 rintro V0 ⟨hu0,b0,z0⟩
 have H0:=hide (show (Up w V0∧Box V0 w.heap.size #[.slice a n c,.int .i64 home,.slice sa sn sc,.slice ca cn cc] 29∧Box V0 (w.heap.size+1) #[.int .i64 (0),.int .i64 (0)] 31)∧noneYet (fun x:Int×Int×Int=>x.1==v) l 0 from ⟨⟨hu0,b0,z0⟩,fun i p hi _=>by omega⟩)
 clear hu0 b0 z0
 go_loopw [6] (fun s6 wr=>∃ k:Nat,s6=.int .i64 k∧k≤cn∧Hid ((Up w wr∧Box wr w.heap.size #[.slice a n c,.int .i64 home,.slice sa sn sc,.slice ca cn cc] 29∧Box wr (w.heap.size+1) #[.int .i64 (0),.int .i64 (0)] 31)∧noneYet (fun x:Int×Int×Int=>x.1==v) l k)) (fun q _=>cn - (intOf q).toNat)
 case atStart=>exact ⟨0,by go_num,by omega,H0⟩
 case round =>
  obtain ⟨k,rfl,hk,hJ⟩:=hrel
  clear H0
  have x3:=hJ.out.1.2.1.cell 3 rfl
  have lx:=hJ.out.1.2.1.lt
  obtain ⟨z0,z1⟩:=hJ.out.1.2.2.c2
  obtain ⟨fz0,fz1⟩:=hJ.out.1.2.2.f2
  have lz:=hJ.out.1.2.2.lt
  by_cases hlt:k<cn
  · have hkb:decide ((k:Int)<cn)=true:=by simp;omega
    have hkn:decide (k<cn)=true:=by simp;omega
    obtain ⟨b0,o0,p,ea,_,hb0,hp,hI,d0,d1,d2⟩:=(Tris.at (HS.out.keeps (hJ.out.1.1.keeps K))).2.2 k hlt
    subst ea
    have HP:=hide hp
    clear hp hI
    obtain ⟨p0,p1,p2⟩:=p
    dsimp only at d0 d1 d2
    by_cases h1:p0=v
    · have h1b:(p0==v)=true:=by simpa using h1
      have HF:=hide (biasV_found hJ.out.2 HP.out h1b)
      clear h1
      go_wp2
      refine forgetW (fun WF=>Up w WF∧Box WF (w.heap.size+1) #[.int .i64 (p1),.int .i64 (p2)] 31) ⟨((hJ.out.1.1.setCell (q:=⟨w.heap.size+1,0,none⟩) (by show w.heap.size≤w.heap.size+1;omega) _).setCell (q:=⟨w.heap.size+1,1,none⟩) (by show w.heap.size≤w.heap.size+1;omega) _),(hJ.out.1.2.2.set 0 (.int .i64 p1)).set 1 (.int .i64 p2)⟩ ?_
      rintro WF ⟨huF,hbF⟩
      obtain ⟨w0,w1⟩:=hbF.c2
      (refine bodyPost_give huF rfl ⟨_,(by simp [results,Tryz.results149,go_sem,w0,w1];rfl),?_⟩)
      rw [HF.out]
    · have h1b:(p0==v)=false:=by simpa using h1
      have HF:=hide (hJ.out.2.succ HP.out h1b)
      replace h1:=hide h1
      go_wp2
      go_roundw
      case rel=>exact ⟨k+1,by go_num,by omega,hide ⟨⟨(Up.via hJ.out.1.1),(Box.via hJ.out.1.2.1),(Box.via hJ.out.1.2.2)⟩,HF.out⟩⟩
      case measure=>simp [intOf];omega
  · have hkb:decide ((k:Int)<cn)=false:=by simp;omega
    have hkn:decide (k<cn)=false:=by simp;omega
    have HF:=hide (biasV_none (v:=v) (by have:=hJ.out.2;rwa [show k=l.length by have:=HN.out;omega] at this))
    go_wp2
    refine forgetW (fun WF=>Up w WF∧Box WF (w.heap.size+1) #[.int .i64 (0),.int .i64 (0)] 31) ⟨((hJ.out.1.1.setCell (q:=⟨w.heap.size+1,0,none⟩) (by show w.heap.size≤w.heap.size+1;omega) _).setCell (q:=⟨w.heap.size+1,1,none⟩) (by show w.heap.size≤w.heap.size+1;omega) _),(hJ.out.1.2.2.set 0 (.int .i64 0)).set 1 (.int .i64 0)⟩ ?_
    rintro WF ⟨huF,hbF⟩
    obtain ⟨w0,w1⟩:=hbF.c2
    (refine bodyPost_give huF rfl ⟨_,(by simp [results,Tryz.results149,go_sem,w0,w1];rfl),?_⟩)
    rw [HF.out]
theorem knd_wx (s:SkyD) (o:OffD):(kndOf s o).wx=(whereV s o.station o.tick).1∧(kndOf s o).wy=(whereV s o.station o.tick).2.1∧(kndOf s o).far=o.far∧(kndOf s o).err=o.err:=by
 unfold kndOf
 by_cases h:o.kind=2
 · rw [if_pos h];exact ⟨rfl,rfl,rfl,rfl⟩
 · rw [if_neg h];exact ⟨rfl,rfl,rfl,rfl⟩
theorem knd_sc {s:SkyD} {o:OffD} (h:¬ o.kind=2):(kndOf s o).sc=true∧(kndOf s o).dx=o.dx∧(kndOf s o).dy=o.dy∧(kndOf s o).lo=(biasOf s o.catalog).1∧(kndOf s o).hi=(biasOf s o.catalog).2∧(kndOf s o).wide=o.wide:=by
 unfold kndOf
 rw [if_neg h];exact ⟨rfl,rfl,rfl,rfl,rfl,rfl⟩
theorem knd_ra {s:SkyD} {o:OffD} (h:o.kind=2):(kndOf s o).sc=false:=by
 unfold kndOf
 rw [if_pos h]
theorem vto_any {K:Nat→Prop} {w:World} {a sa ca:Option Addr} {n c sn sc cn cc:Nat} {s:SkyD} (hL:SkyL K w a n c sa sn sc ca cn cc s) (o:OffD) (he:offE s o=0) {x y:Int} (hp:PBd (x,y)):Gives Tryz.prog 151 #[.agg #[.slice a n c,.int .i64 s.home,.slice sa sn sc,.slice ca cn cc],.agg (offA o),.agg #[.int .i64 (x),.int .i64 (y)]] w (.agg #[.int .i64 ((x - (kndOf s o).wx)),.int .i64 ((y - (kndOf s o).wy))]):=by
 have HW:=hide (fun W (hu:Up w W)=>sWhere_any (hL.up hu).b hL.h (hL.up hu).st (hL.up hu).ca o.station o.tick)
 have hk:=kbd_of he
 obtain ⟨e1,e2,-,-⟩:=knd_wx s o
 rw [← e1,← e2] at HW
 have hx:=hk.wx
 have hy:=hk.wy
 obtain ⟨oz,hoz⟩:∃ z,(whereV s o.station o.tick).2.2=z:=⟨_,rfl⟩
 rw [hoz] at HW
 obtain ⟨⟨p1,p2⟩,p3,p4⟩:=hp
 dsimp only at p1 p2 p3 p4
 clear hoz e1 e2 hk he hL
 generalize (kndOf s o).wx=wx at *
 generalize (kndOf s o).wy=wy at *
 generalize s.home=home at *
 (unfold Gives;go_enter Tryz.func151,Tryz.ntmps151)
 go_wp2_with fail
 go_at_call 80
 refine forgetK (fun V=>Up w V∧Box V w.heap.size #[.slice a n c,.int .i64 home,.slice sa sn sc,.slice ca cn cc] 29∧Box V (w.heap.size+1) (offA o) 50∧Box V (w.heap.size+1+1) #[.int .i64 (x),.int .i64 (y)] 48∧Box V (w.heap.size+1+1+1) #[.int .i64 (0),.int .i64 (0)] 48) ⟨Up.go,Box.go,Box.go,Box.go,Box.go⟩ ?_
 rintro V ⟨hu,-,-,bp,bz⟩
 refine (HW.out _ hu).mono ?_
 intro q1
 obtain ⟨g0,g1⟩:=bp.c2
 have lg:=bp.lt
 obtain ⟨z0,z1⟩:=bz.c2
 obtain ⟨fz0,fz1⟩:=bz.f2
 have lz:=bz.lt
 have HB:=hide (And.intro hu bz)
 clear hu bp bz HW
 go_wp2_with fail
 refine forgetW (fun WF=>Up w WF∧Box WF (w.heap.size+1+1+1) #[.int .i64 ((x - wx)),.int .i64 ((y - wy))] 48) ⟨(Up.viz HB.out.1),?_⟩ ?_
 · exact (by (repeat (first|with_reducible apply Box.ext|with_reducible apply Box.alloc|with_reducible apply Box.drew));exact ((HB.out.2.set 0 (.int .i64 (x - wx))).set 1 (.int .i64 (y - wy))))
 rintro WF ⟨huF,hbF⟩
 obtain ⟨w0,w1⟩:=hbF.c2
 (refine bodyPost_give huF rfl ⟨_,(by simp [results,Tryz.results151,go_sem,w0,w1];rfl),?_⟩)
 rfl
theorem vslope_any {K:Nat→Prop} {w:World} {a sa ca:Option Addr} {n c sn sc cn cc:Nat} {s:SkyD} (hL:SkyL K w a n c sa sn sc ca cn cc s) (o:OffD) (he:offE s o=0) (hs:¬ o.kind=2) {x y:Int} (hp:PBd (x,y)):Gives Tryz.prog 109 #[.agg #[.slice a n c,.int .i64 s.home,.slice sa sn sc,.slice ca cn cc],.agg (offA o),.agg #[.int .i64 (x),.int .i64 (y)]] w (.tuple #[.int .i64 (1000000*crK (kndOf s o) (x,y)),.int .i64 (doK (kndOf s o) (x,y))]):=by
 have HT:=hide (fun W (hu:Up w W)=>vto_any (hL.up hu) o he hp)
 have hk:=kbd_of he
 have hsq:=(sq_bdK hk hp).1
 have hcr:=cr_bdK hk hp
 obtain ⟨-,e1,e2,-⟩:=knd_sc (s:=s) hs
 unfold crK doK at hcr ⊢
 rw [e1,e2] at hcr ⊢
 dsimp only at hsq hcr ⊢
 obtain ⟨⟨c1,c2⟩,⟨c3,c4⟩,c5,c6⟩:=hcr
 clear e1 e2 hk hs he hL hp
 generalize (kndOf s o).wx=wx at *
 generalize (kndOf s o).wy=wy at *
 generalize s.home=home at *
 (unfold Gives;go_enter Tryz.func109,Tryz.ntmps109)
 go_wp2_with fail
 go_at_call 151
 refine forgetK (fun V=>Up w V∧Box V w.heap.size #[.slice a n c,.int .i64 home,.slice sa sn sc,.slice ca cn cc] 29∧Box V (w.heap.size+1) (offA o) 50∧Box V (w.heap.size+1+1) #[.int .i64 (x),.int .i64 (y)] 48) ⟨Up.go,Box.go,Box.go,Box.go⟩ ?_
 rintro V ⟨hu,b0,b1,b2⟩
 obtain ⟨s0,s1,s2,s3⟩:=b0.c4
 have ls:=b0.lt
 obtain ⟨f0,f1,f2,f3,f4,f5,f6,f7,f8,f9,f10⟩:=b1.c11
 have lf:=b1.lt
 obtain ⟨g0,g1⟩:=b2.c2
 have lg:=b2.lt
 have HB:=hide (hu)
 clear hu b0 b1 b2
 refine (HT.out _ HB.out).mono ?_
 intro q1
 go_wp2_with fail
 ((first | with_reducible refine wp_region_ext2 (by kernel_rfl) (by kernel_rfl) ?_ | refine wp_region_ext (by kernel_rfl) (by kernel_rfl) ?_);(repeat (go_big_quiet_step (fail)));refine wpQuiet_nil ?_;intro _ hw';obtain ⟨_,hw''⟩:=hw';subst hw'')
 go_wp2
 refine bodyPost_give (Up.via HB.out) rfl ⟨_,(by simp [results,Tryz.results109,go_sem];rfl),?_⟩
 rfl
theorem vfield0_any {K:Nat→Prop} {w:World} {a sa ca:Option Addr} {n c sn sc cn cc:Nat} {s:SkyD} (hL:SkyL K w a n c sa sn sc ca cn cc s) (o:OffD) (he:offE s o=0) {x y:Int} (hp:PBd (x,y)):Gives Tryz.prog 118 #[.agg #[.slice a n c,.int .i64 s.home,.slice sa sn sc,.slice ca cn cc],.agg (offA o),.agg #[.int .i64 (x),.int .i64 (y)]] w (.bool (fieldK (kndOf s o) (x,y))):=by
 have HT:=hide (fun W (hu:Up w W)=>vto_any (hL.up hu) o he hp)
 have hk:=kbd_of he
 have hsq:=sq_bdK hk hp
 have HQ:=hide (fun W=>vsquare_any (x:=x - (kndOf s o).wx) (y:=y - (kndOf s o).wy) ⟨by have:=hsq.1.1.1;omega,by have:=hsq.1.1.2;omega⟩ ⟨by have:=hsq.1.2.1;omega,by have:=hsq.1.2.2;omega⟩ W)
 obtain ⟨-,-,ef,-⟩:=knd_wx s o
 have hf:=hk.far
 rw [ef] at hf
 have hff:=mul_abs (x:=o.far) (y:=o.far) (B:=134217728) (C:=134217728) (by omega) (by omega) (by omega) (by omega)
 have e4:(134217728:Int)*134217728=18014398509481984:=by decide
 rw [e4] at hff
 have hS:(x - (kndOf s o).wx)*(x - (kndOf s o).wx)+(y - (kndOf s o).wy)*(y - (kndOf s o).wy)=sqK (kndOf s o) (x,y):=rfl
 rw [hS] at HQ
 have hR:reachK (kndOf s o) (x,y)=decide (sqK (kndOf s o) (x,y)≤o.far*o.far):=by unfold reachK;rw [ef]
 obtain ⟨Q,hQ⟩:∃ Q,sqK (kndOf s o) (x,y)=Q:=⟨_,rfl⟩
 have hQb:0≤Q∧Q≤9290873254707200:=by rw [← hQ];exact hsq.2.2.2
 rw [hQ] at HQ hR
 by_cases hr:o.far*o.far<Q
 · have hF:fieldK (kndOf s o) (x,y)=false:=by
    unfold fieldK
    rw [hR,decide_eq_false (by omega),Bool.false_and]
   rw [hF]
   clear hF hR hQ hS hsq ef hk he hL hp
   generalize (kndOf s o).wx=wx at *
   generalize (kndOf s o).wy=wy at *
   generalize s.home=home at *
   (unfold Gives;go_enter Tryz.func118,Tryz.ntmps118)
   go_wp2_with fail
   refine forgetW (fun V=>Up w V∧Box V w.heap.size #[.slice a n c,.int .i64 home,.slice sa sn sc,.slice ca cn cc] 29∧Box V (w.heap.size+1) (offA o) 50∧Box V (w.heap.size+1+1) #[.int .i64 (x),.int .i64 (y)] 48) ⟨Up.go,Box.go,Box.go,Box.go⟩ ?_
   rintro V ⟨hu,b0,b1,b2⟩
   obtain ⟨s0,s1,s2,s3⟩:=b0.c4
   have ls:=b0.lt
   obtain ⟨f0,f1,f2,f3,f4,f5,f6,f7,f8,f9,f10⟩:=b1.c11
   have lf:=b1.lt
   obtain ⟨g0,g1⟩:=b2.c2
   have lg:=b2.lt
   have HB:=hide (hu)
   clear hu b0 b1 b2
   ((first | with_reducible refine wp_region_ext2 (by kernel_rfl) (by kernel_rfl) ?_ | refine wp_region_ext (by kernel_rfl) (by kernel_rfl) ?_);(repeat (go_big_quiet_step ((first | (go_at_call 151;with_reducible exact Gives.inRegion (HT.out _ (HB.out.ext _))) | (go_at_call 159;with_reducible exact Gives.inRegion (HQ.out _))))));refine wpQuiet_nil ?_;intro _ hw';obtain ⟨_,hw''⟩:=hw';subst hw'')
   go_wp2
   go_ret
   exact ⟨rfl,(Up.via HB.out)⟩
 have hR2:reachK (kndOf s o) (x,y)=true:=by rw [hR];exact decide_eq_true (by omega)
 by_cases h2:o.kind=2
 · have hF:fieldK (kndOf s o) (x,y)=true:=by
    unfold fieldK
    rw [hR2,knd_ra h2];rfl
   rw [hF]
   have h2b:(o.kind==2)=true:=by simp [h2]
   clear h2 hF hR hR2 hQ hS hsq ef hk he hL hp
   generalize (kndOf s o).wx=wx at *
   generalize (kndOf s o).wy=wy at *
   generalize s.home=home at *
   (unfold Gives;go_enter Tryz.func118,Tryz.ntmps118)
   go_wp2_with fail
   refine forgetW (fun V=>Up w V∧Box V w.heap.size #[.slice a n c,.int .i64 home,.slice sa sn sc,.slice ca cn cc] 29∧Box V (w.heap.size+1) (offA o) 50∧Box V (w.heap.size+1+1) #[.int .i64 (x),.int .i64 (y)] 48) ⟨Up.go,Box.go,Box.go,Box.go⟩ ?_
   rintro V ⟨hu,b0,b1,b2⟩
   obtain ⟨s0,s1,s2,s3⟩:=b0.c4
   have ls:=b0.lt
   obtain ⟨f0,f1,f2,f3,f4,f5,f6,f7,f8,f9,f10⟩:=b1.c11
   have lf:=b1.lt
   obtain ⟨g0,g1⟩:=b2.c2
   have lg:=b2.lt
   have HB:=hide (hu)
   clear hu b0 b1 b2
   ((first | with_reducible refine wp_region_ext2 (by kernel_rfl) (by kernel_rfl) ?_ | refine wp_region_ext (by kernel_rfl) (by kernel_rfl) ?_);(repeat (go_big_quiet_step ((first | (go_at_call 151;with_reducible exact Gives.inRegion (HT.out _ (HB.out.ext _))) | (go_at_call 159;with_reducible exact Gives.inRegion (HQ.out _))))));refine wpQuiet_nil ?_;intro _ hw';obtain ⟨_,hw''⟩:=hw';subst hw'')
   go_wp2
   go_ret
   exact ⟨rfl,(Up.via HB.out)⟩
 have HS:=hide (fun W (hu:Up w W)=>vslope_any (hL.up hu) o he h2 hp)
 obtain ⟨e0,-,-,-,-,e5⟩:=knd_sc (s:=s) h2
 have hw:=hk.wide
 rw [e5] at hw
 have hcr:=(cr_bdK hk hp).2.2
 have hF:fieldK (kndOf s o) (x,y)=(decide (0<doK (kndOf s o) (x,y))&&(decide (-o.wide*doK (kndOf s o) (x,y)≤1000000*crK (kndOf s o) (x,y))&&decide (1000000*crK (kndOf s o) (x,y)≤o.wide*doK (kndOf s o) (x,y)))):=by
  unfold fieldK withinK
  rw [hR2,e0,e5];rfl
 rw [hF]
 obtain ⟨C,hC⟩:∃ C,crK (kndOf s o) (x,y)=C:=⟨_,rfl⟩
 obtain ⟨D,hD⟩:∃ D,doK (kndOf s o) (x,y)=D:=⟨_,rfl⟩
 rw [hC,hD] at hcr HS ⊢
 clear hF hR hR2 hQ hS hsq ef e0 e5 hk he hL hp hC hD
 generalize (kndOf s o).wx=wx at *
 generalize (kndOf s o).wy=wy at *
 generalize s.home=home at *
 have hm:=mul_abs (x:=o.wide) (y:=D) (B:=1000000) (C:=558345748480) (by omega) (by omega) (by omega) (by omega)
 have hmn:-o.wide*D = -(o.wide*D):=Int.neg_mul _ _
 have hnn:-(o.wide)*D = -(o.wide*D):=Int.neg_mul _ _
 rw [hmn]
 obtain ⟨c1,c2⟩:-1000000000000000000≤1000000*C∧1000000*C≤1000000000000000000:=by omega
 have hcase:(¬ 0<D)∨(0<D∧¬ -(o.wide*D)≤1000000*C)∨(0<D ∧ -(o.wide*D)≤1000000*C∧¬ 1000000*C≤o.wide*D)∨(0<D ∧ -(o.wide*D)≤1000000*C∧1000000*C≤o.wide*D):=by omega
 have e6:(1000000:Int)*558345748480=558345748480000000:=by decide
 rw [e6] at hm
 rcases hcase with h | ⟨h,h'⟩ | ⟨h,h',h''⟩ | ⟨h,h',h''⟩
 · rw [decide_eq_false h,Bool.false_and]
   (unfold Gives;go_enter Tryz.func118,Tryz.ntmps118)
   go_wp2_with fail
   refine forgetW (fun V=>Up w V∧Box V w.heap.size #[.slice a n c,.int .i64 home,.slice sa sn sc,.slice ca cn cc] 29∧Box V (w.heap.size+1) (offA o) 50∧Box V (w.heap.size+1+1) #[.int .i64 (x),.int .i64 (y)] 48) ⟨Up.go,Box.go,Box.go,Box.go⟩ ?_
   rintro V ⟨hu,b0,b1,b2⟩
   obtain ⟨s0,s1,s2,s3⟩:=b0.c4
   have ls:=b0.lt
   obtain ⟨f0,f1,f2,f3,f4,f5,f6,f7,f8,f9,f10⟩:=b1.c11
   have lf:=b1.lt
   obtain ⟨g0,g1⟩:=b2.c2
   have lg:=b2.lt
   have HB:=hide (hu)
   clear hu b0 b1 b2
   ((first | with_reducible refine wp_region_ext2 (by kernel_rfl) (by kernel_rfl) ?_ | refine wp_region_ext (by kernel_rfl) (by kernel_rfl) ?_);(repeat (go_big_quiet_step ((first | (go_at_call 151;with_reducible exact Gives.inRegion (HT.out _ (HB.out.ext _))) | (go_at_call 159;with_reducible exact Gives.inRegion (HQ.out _))))));refine wpQuiet_nil ?_;intro _ hw';obtain ⟨_,hw''⟩:=hw';subst hw'')
   go_wp2_with fail
   go_at_call 109
   refine (HS.out _ (by repeat (first|with_reducible exact HB.out|with_reducible apply Up.ext|with_reducible apply Up.alloc|with_reducible apply Up.drew))).mono ?_
   intro q2
   go_wp2
   go_ret
   exact ⟨ret_bool (by simp_all),(Up.via HB.out)⟩
 · rw [decide_eq_true h,decide_eq_false h',Bool.true_and,Bool.false_and]
   (unfold Gives;go_enter Tryz.func118,Tryz.ntmps118)
   go_wp2_with fail
   refine forgetW (fun V=>Up w V∧Box V w.heap.size #[.slice a n c,.int .i64 home,.slice sa sn sc,.slice ca cn cc] 29∧Box V (w.heap.size+1) (offA o) 50∧Box V (w.heap.size+1+1) #[.int .i64 (x),.int .i64 (y)] 48) ⟨Up.go,Box.go,Box.go,Box.go⟩ ?_
   rintro V ⟨hu,b0,b1,b2⟩
   obtain ⟨s0,s1,s2,s3⟩:=b0.c4
   have ls:=b0.lt
   obtain ⟨f0,f1,f2,f3,f4,f5,f6,f7,f8,f9,f10⟩:=b1.c11
   have lf:=b1.lt
   obtain ⟨g0,g1⟩:=b2.c2
   have lg:=b2.lt
   have HB:=hide (hu)
   clear hu b0 b1 b2
   ((first | with_reducible refine wp_region_ext2 (by kernel_rfl) (by kernel_rfl) ?_ | refine wp_region_ext (by kernel_rfl) (by kernel_rfl) ?_);(repeat (go_big_quiet_step ((first | (go_at_call 151;with_reducible exact Gives.inRegion (HT.out _ (HB.out.ext _))) | (go_at_call 159;with_reducible exact Gives.inRegion (HQ.out _))))));refine wpQuiet_nil ?_;intro _ hw';obtain ⟨_,hw''⟩:=hw';subst hw'')
   go_wp2_with fail
   go_at_call 109
   refine (HS.out _ (by repeat (first|with_reducible exact HB.out|with_reducible apply Up.ext|with_reducible apply Up.alloc|with_reducible apply Up.drew))).mono ?_
   intro q2
   go_wp2
   go_ret
   exact ⟨ret_bool (by simp_all),(Up.via HB.out)⟩
 · rw [decide_eq_true h,decide_eq_true h',decide_eq_false h'',Bool.true_and,Bool.true_and]
   (unfold Gives;go_enter Tryz.func118,Tryz.ntmps118)
   go_wp2_with fail
   refine forgetW (fun V=>Up w V∧Box V w.heap.size #[.slice a n c,.int .i64 home,.slice sa sn sc,.slice ca cn cc] 29∧Box V (w.heap.size+1) (offA o) 50∧Box V (w.heap.size+1+1) #[.int .i64 (x),.int .i64 (y)] 48) ⟨Up.go,Box.go,Box.go,Box.go⟩ ?_
   rintro V ⟨hu,b0,b1,b2⟩
   obtain ⟨s0,s1,s2,s3⟩:=b0.c4
   have ls:=b0.lt
   obtain ⟨f0,f1,f2,f3,f4,f5,f6,f7,f8,f9,f10⟩:=b1.c11
   have lf:=b1.lt
   obtain ⟨g0,g1⟩:=b2.c2
   have lg:=b2.lt
   have HB:=hide (hu)
   clear hu b0 b1 b2
   ((first | with_reducible refine wp_region_ext2 (by kernel_rfl) (by kernel_rfl) ?_ | refine wp_region_ext (by kernel_rfl) (by kernel_rfl) ?_);(repeat (go_big_quiet_step ((first | (go_at_call 151;with_reducible exact Gives.inRegion (HT.out _ (HB.out.ext _))) | (go_at_call 159;with_reducible exact Gives.inRegion (HQ.out _))))));refine wpQuiet_nil ?_;intro _ hw';obtain ⟨_,hw''⟩:=hw';subst hw'')
   go_wp2_with fail
   go_at_call 109
   refine (HS.out _ (by repeat (first|with_reducible exact HB.out|with_reducible apply Up.ext|with_reducible apply Up.alloc|with_reducible apply Up.drew))).mono ?_
   intro q2
   go_wp2
   go_ret
   exact ⟨ret_bool (by simp_all),(Up.via HB.out)⟩
 · rw [decide_eq_true h,decide_eq_true h',decide_eq_true h'',Bool.true_and,Bool.true_and]
   (unfold Gives;go_enter Tryz.func118,Tryz.ntmps118)
   go_wp2_with fail
   refine forgetW (fun V=>Up w V∧Box V w.heap.size #[.slice a n c,.int .i64 home,.slice sa sn sc,.slice ca cn cc] 29∧Box V (w.heap.size+1) (offA o) 50∧Box V (w.heap.size+1+1) #[.int .i64 (x),.int .i64 (y)] 48) ⟨Up.go,Box.go,Box.go,Box.go⟩ ?_
   rintro V ⟨hu,b0,b1,b2⟩
   obtain ⟨s0,s1,s2,s3⟩:=b0.c4
   have ls:=b0.lt
   obtain ⟨f0,f1,f2,f3,f4,f5,f6,f7,f8,f9,f10⟩:=b1.c11
   have lf:=b1.lt
   obtain ⟨g0,g1⟩:=b2.c2
   have lg:=b2.lt
   have HB:=hide (hu)
   clear hu b0 b1 b2
   ((first | with_reducible refine wp_region_ext2 (by kernel_rfl) (by kernel_rfl) ?_ | refine wp_region_ext (by kernel_rfl) (by kernel_rfl) ?_);(repeat (go_big_quiet_step ((first | (go_at_call 151;with_reducible exact Gives.inRegion (HT.out _ (HB.out.ext _))) | (go_at_call 159;with_reducible exact Gives.inRegion (HQ.out _))))));refine wpQuiet_nil ?_;intro _ hw';obtain ⟨_,hw''⟩:=hw';subst hw'')
   go_wp2_with fail
   go_at_call 109
   refine (HS.out _ (by repeat (first|with_reducible exact HB.out|with_reducible apply Up.ext|with_reducible apply Up.alloc|with_reducible apply Up.drew))).mono ?_
   intro q2
   go_wp2
   go_ret
   exact ⟨ret_bool (by simp_all),(Up.via HB.out)⟩
def cnt (f:Int×Int→Bool) (l:List (Int×Int)) (k:Nat):Nat:=(l.take k).countP f
theorem clamp_max (a b:Int):clampS (max a b)=max (clampS a) (clampS b):=by
 rcases Int.le_total a b with h | h
 · have:=clamp_mono h
   rw [Int.max_eq_right h,Int.max_eq_right this]
 · have:=clamp_mono h
   rw [Int.max_eq_left h,Int.max_eq_left this]
theorem more_max (a b h e:Int):max a b - h+e=max (a - h+e) (b - h+e):=by omega
theorem hi4 (a b c d h e:Int):max (max (max (max (-1099511627776) (clampS (a - h+e))) (clampS (b - h+e))) (clampS (c - h+e))) (clampS (d - h+e))=clampS (max (max (max (max a a) b) c) d - h+e):=by
 have h1:=(clamp_bd (a - h+e)).1
 simp only [more_max,clamp_max]
 rw [Int.max_eq_right h1,Int.max_self]
theorem vbetw_eq {n lo hi:Int} {b:Bool} (h:withinB n lo hi=b) (w:World):Gives Tryz.prog 106 #[.int .i64 n,.int .i64 lo,.int .i64 hi] w (.bool b):=h▸vbetween_any n lo hi w
theorem biasV_is (l:List (Int×Int×Int)) (v:Int):(biasV l v).2=l.any fun x=>x.1==v:=by
 unfold biasV
 cases hf:l.find? (fun x=>x.1==v) with
 | none =>
  have:=List.find?_eq_none.1 hf
  symm
  rw [List.any_eq_false]
  intro x hx
  simpa using this x hx
 | some x =>
  symm
  rw [List.any_eq_true]
  exact ⟨x,List.mem_of_find?_eq_some hf,by simpa using List.find?_some hf⟩
theorem vhas_eq {K:Nat→Prop} {w:World} {a sa ca:Option Addr} {n c sn sc cn cc:Nat} {l:List (Int×Int×Int)} {home id:Int} {b:Bool} (hs:Tris K w (.slice sa sn sc) l) (h:(l.any fun x=>x.1==id)=b) :
 Gives Tryz.prog 148 #[.agg #[.slice a n c,.int .i64 home,.slice sa sn sc,.slice ca cn cc],.int .i64 id] w (.bool b):=h▸vhas_any hs id
theorem vbias_eq {K:Nat→Prop} {w:World} {a sa ca:Option Addr} {n c sn sc cn cc:Nat} {l:List (Int×Int×Int)} {home v b1 b2:Int} {b:Bool} (hs:Tris K w (.slice ca cn cc) l) (h:biasV l v=((b1,b2),b)) :
 Gives Tryz.prog 149 #[.agg #[.slice a n c,.int .i64 home,.slice sa sn sc,.slice ca cn cc],.int .i64 v] w (.tuple #[.agg #[.int .i64 (b1),.int .i64 (b2)],.bool b]):=by
 have:=vbias_any (a:=a) (n:=n) (c:=c) (sa:=sa) (sn:=sn) (sc:=sc) (home:=home) hs v
 rw [h] at this
 exact this
theorem cost_cases (x:Int):(withinB x 0 1000=true∧¬ x<0∧¬ 1000<x)∨(withinB x 0 1000=false∧x<0)∨(withinB x 0 1000=false∧¬ x<0∧1000<x):=by
 unfold withinB
 by_cases h0:x<0
 · exact .inr (.inl ⟨decide_eq_false (by omega),h0⟩)
 · by_cases h1:1000<x
   · exact .inr (.inr ⟨decide_eq_false (by omega),h0,h1⟩)
   · exact .inl ⟨decide_eq_true (by omega),h0,h1⟩
theorem voffer_any {K:Nat→Prop} {w:World} {a sa ca:Option Addr} {n c sn sc cn cc:Nat} {s:SkyD} (hL:SkyL K w a n c sa sn sc ca cn cc s) (o:OffD):Gives Tryz.prog 105 #[.agg #[.slice a n c,.int .i64 s.home,.slice sa sn sc,.slice ca cn cc],.agg (offA o)] w (.int .i64 (offE0 s o)):=by
 have HS:=hide (fun W (hu:Up w W) b (h:(s.stations.any fun x=>x.1==o.station)=b)=>vhas_eq (a:=a) (n:=n) (c:=c) (ca:=ca) (cn:=cn) (cc:=cc) (home:=s.home) (hL.up hu).st h)
 have HC:=hide (fun W (hu:Up w W) b1 b2 b (h:biasV s.catalogs o.catalog=((b1,b2),b))=>vbias_eq (a:=a) (n:=n) (c:=c) (sa:=sa) (sn:=sn) (sc:=sc) (home:=s.home) (hL.up hu).ca h)
 generalize s.home=home at *
 clear hL
 by_cases k0:o.kind≠1∧o.kind≠2
 · have hE:offE0 s o=4:=by unfold offE0;rw [if_pos k0]
   rw [hE]
   obtain ⟨k1,k2⟩:=k0
   have kb1:(o.kind != 1)=true:=by simp [k1]
   have kb2:(o.kind != 2)=true:=by simp [k2]
   clear hE
   (unfold Gives;go_enter Tryz.func105,Tryz.ntmps105)
   go_wp2_with fail
   go_ret
   exact ⟨rfl,Up.go⟩
 have hk:o.kind=1∨o.kind=2:=by omega
 rcases hk with k | k
 · skip
   by_cases h1:withinB o.tick 0 1073741824=true
   rotate_left
   · replace h1:withinB o.tick 0 1073741824=false:=Bool.eq_false_iff.2 h1
     have hE:offE0 s o=2:=by unfold offE0;simp [k,h1]
     rw [hE]
     clear hE
     (unfold Gives;go_enter Tryz.func105,Tryz.ntmps105)
     go_wp2_with (first|(go_at_call 106;(with_reducible refine (vbetw_eq h1 _).mono ?_);intro _))
     go_ret
     exact ⟨rfl,Up.go⟩
   by_cases hst:(s.stations.any fun x=>x.1==o.station)=true
   rotate_left
   · replace hst:(s.stations.any fun x=>x.1==o.station)=false:=Bool.eq_false_iff.2 hst
     have hE:offE0 s o=7:=by unfold offE0;simp [k,h1,hst]
     rw [hE]
     clear hE
     (unfold Gives;go_enter Tryz.func105,Tryz.ntmps105)
     go_wp2_with (first|(go_at_call 106;(with_reducible refine (vbetw_eq h1 _).mono ?_);intro _)|(go_at_call 148;(with_reducible refine (HS.out _ Up.go _ hst).mono ?_);intro _))
     go_ret
     exact ⟨rfl,Up.go⟩
   by_cases h2:withinB o.err 0 500000=true
   rotate_left
   · replace h2:withinB o.err 0 500000=false:=Bool.eq_false_iff.2 h2
     have hE:offE0 s o=2:=by unfold offE0;simp [k,h1,hst,h2]
     rw [hE]
     clear hE
     (unfold Gives;go_enter Tryz.func105,Tryz.ntmps105)
     go_wp2_with (first|(go_at_call 106;(with_reducible refine (vbetw_eq h1 _).mono ?_);intro _)|(go_at_call 106;(with_reducible refine (vbetw_eq h2 _).mono ?_);intro _)|(go_at_call 148;(with_reducible refine (HS.out _ Up.go _ hst).mono ?_);intro _))
     go_ret
     exact ⟨rfl,Up.go⟩
   by_cases h3:withinB o.far 1 134217728=true
   rotate_left
   · replace h3:withinB o.far 1 134217728=false:=Bool.eq_false_iff.2 h3
     have hE:offE0 s o=2:=by unfold offE0;simp [k,h1,hst,h2,h3]
     rw [hE]
     clear hE
     (unfold Gives;go_enter Tryz.func105,Tryz.ntmps105)
     go_wp2_with (first|(go_at_call 106;(with_reducible refine (vbetw_eq h1 _).mono ?_);intro _)|(go_at_call 106;(with_reducible refine (vbetw_eq h2 _).mono ?_);intro _)|(go_at_call 106;(with_reducible refine (vbetw_eq h3 _).mono ?_);intro _)|(go_at_call 148;(with_reducible refine (HS.out _ Up.go _ hst).mono ?_);intro _))
     go_ret
     exact ⟨rfl,Up.go⟩
   rcases cost_cases o.cost with ⟨h4,g1,g2⟩ | ⟨h4,g1⟩ | ⟨h4,g1,g2⟩
   rotate_left
   · have hE:offE0 s o=2:=by unfold offE0;simp [k,h1,hst,h2,h3,h4]
     rw [hE]
     clear hE
     (unfold Gives;go_enter Tryz.func105,Tryz.ntmps105)
     go_wp2_with (first|(go_at_call 106;(with_reducible refine (vbetw_eq h1 _).mono ?_);intro _)|(go_at_call 106;(with_reducible refine (vbetw_eq h2 _).mono ?_);intro _)|(go_at_call 106;(with_reducible refine (vbetw_eq h3 _).mono ?_);intro _)|(go_at_call 148;(with_reducible refine (HS.out _ Up.go _ hst).mono ?_);intro _))
     go_ret
     exact ⟨rfl,Up.go⟩
   · have hE:offE0 s o=2:=by unfold offE0;simp [k,h1,hst,h2,h3,h4]
     rw [hE]
     clear hE
     (unfold Gives;go_enter Tryz.func105,Tryz.ntmps105)
     go_wp2_with (first|(go_at_call 106;(with_reducible refine (vbetw_eq h1 _).mono ?_);intro _)|(go_at_call 106;(with_reducible refine (vbetw_eq h2 _).mono ?_);intro _)|(go_at_call 106;(with_reducible refine (vbetw_eq h3 _).mono ?_);intro _)|(go_at_call 148;(with_reducible refine (HS.out _ Up.go _ hst).mono ?_);intro _))
     go_ret
     exact ⟨rfl,Up.go⟩
   obtain ⟨b1,hb1⟩:∃ x,(biasV s.catalogs o.catalog).1.1=x:=⟨_,rfl⟩
   obtain ⟨b2,hb2⟩:∃ x,(biasV s.catalogs o.catalog).1.2=x:=⟨_,rfl⟩
   have hb3:=biasV_is s.catalogs o.catalog
   by_cases hct:(s.catalogs.any fun x=>x.1==o.catalog)=true
   rotate_left
   · replace hct:(s.catalogs.any fun x=>x.1==o.catalog)=false:=Bool.eq_false_iff.2 hct
     rw [hct] at hb3
     have hb:biasV s.catalogs o.catalog=((b1,b2),false):=by rw [← hb1,← hb2,← hb3]
     have hE:offE0 s o=7:=by unfold offE0;simp [k,h1,hst,h2,h3,h4,hct]
     rw [hE]
     clear hE hb1 hb2 hb3
     (unfold Gives;go_enter Tryz.func105,Tryz.ntmps105)
     go_wp2_with (first|(go_at_call 106;(with_reducible refine (vbetw_eq h1 _).mono ?_);intro _)|(go_at_call 106;(with_reducible refine (vbetw_eq h2 _).mono ?_);intro _)|(go_at_call 106;(with_reducible refine (vbetw_eq h3 _).mono ?_);intro _)|(go_at_call 148;(with_reducible refine (HS.out _ Up.go _ hst).mono ?_);intro _)|(go_at_call 149;(with_reducible refine (HC.out _ Up.go _ _ _ hb).mono ?_);intro _))
     go_ret
     exact ⟨rfl,Up.go⟩
   rw [hct] at hb3
   have hb:biasV s.catalogs o.catalog=((b1,b2),true):=by rw [← hb1,← hb2,← hb3]
   clear hb1 hb2 hb3
   by_cases h5:withinB o.dx (-4096) 4096=true
   rotate_left
   · replace h5:withinB o.dx (-4096) 4096=false:=Bool.eq_false_iff.2 h5
     have hE:offE0 s o=2:=by unfold offE0;simp [k,h1,hst,h2,h3,h4,hct,h5]
     rw [hE]
     clear hE
     (unfold Gives;go_enter Tryz.func105,Tryz.ntmps105)
     go_wp2_with (first|(go_at_call 106;(with_reducible refine (vbetw_eq h1 _).mono ?_);intro _)|(go_at_call 106;(with_reducible refine (vbetw_eq h2 _).mono ?_);intro _)|(go_at_call 106;(with_reducible refine (vbetw_eq h3 _).mono ?_);intro _)|(go_at_call 106;(with_reducible refine (vbetw_eq h5 _).mono ?_);intro _)|(go_at_call 148;(with_reducible refine (HS.out _ Up.go _ hst).mono ?_);intro _)|(go_at_call 149;(with_reducible refine (HC.out _ Up.go _ _ _ hb).mono ?_);intro _))
     go_ret
     exact ⟨rfl,Up.go⟩
   by_cases h6:withinB o.dy (-4096) 4096=true
   rotate_left
   · replace h6:withinB o.dy (-4096) 4096=false:=Bool.eq_false_iff.2 h6
     have hE:offE0 s o=2:=by unfold offE0;simp [k,h1,hst,h2,h3,h4,hct,h5,h6]
     rw [hE]
     clear hE
     (unfold Gives;go_enter Tryz.func105,Tryz.ntmps105)
     go_wp2_with (first|(go_at_call 106;(with_reducible refine (vbetw_eq h1 _).mono ?_);intro _)|(go_at_call 106;(with_reducible refine (vbetw_eq h2 _).mono ?_);intro _)|(go_at_call 106;(with_reducible refine (vbetw_eq h3 _).mono ?_);intro _)|(go_at_call 106;(with_reducible refine (vbetw_eq h5 _).mono ?_);intro _)|(go_at_call 106;(with_reducible refine (vbetw_eq h6 _).mono ?_);intro _)|(go_at_call 148;(with_reducible refine (HS.out _ Up.go _ hst).mono ?_);intro _)|(go_at_call 149;(with_reducible refine (HC.out _ Up.go _ _ _ hb).mono ?_);intro _))
     go_ret
     exact ⟨rfl,Up.go⟩
   have hzz:(o.dx=0∧o.dy=0)∨¬ o.dx=0∨(o.dx=0∧¬ o.dy=0):=by omega
   rcases hzz with ⟨z1,z2⟩ | hz2
   · have hE:offE0 s o=2:=by unfold offE0;simp [k,h1,hst,h2,h3,h4,hct,h5,h6,z1,z2]
     rw [hE]
     replace z1:(o.dx==0)=true:=by simp [z1]
     replace z2:(o.dy==0)=true:=by simp [z2]
     clear hE
     (unfold Gives;go_enter Tryz.func105,Tryz.ntmps105)
     go_wp2_with (first|(go_at_call 106;(with_reducible refine (vbetw_eq h1 _).mono ?_);intro _)|(go_at_call 106;(with_reducible refine (vbetw_eq h2 _).mono ?_);intro _)|(go_at_call 106;(with_reducible refine (vbetw_eq h3 _).mono ?_);intro _)|(go_at_call 106;(with_reducible refine (vbetw_eq h5 _).mono ?_);intro _)|(go_at_call 106;(with_reducible refine (vbetw_eq h6 _).mono ?_);intro _)|(go_at_call 148;(with_reducible refine (HS.out _ Up.go _ hst).mono ?_);intro _)|(go_at_call 149;(with_reducible refine (HC.out _ Up.go _ _ _ hb).mono ?_);intro _))
     go_ret
     exact ⟨rfl,Up.go⟩
   have hZ:(o.dx==0&&o.dy==0)=false:=by rcases hz2 with h | ⟨h,h'⟩ <;> simp [h] <;> omega
   by_cases h7:withinB o.wide 0 1000000=true
   rotate_left
   · replace h7:withinB o.wide 0 1000000=false:=Bool.eq_false_iff.2 h7
     have hE:offE0 s o=2:=by unfold offE0;simp [k,h1,hst,h2,h3,h4,hct,h5,h6,h7,hZ]
     rw [hE]
     clear hE
     rcases hz2 with z1 | ⟨z1,z2⟩
     · replace z1:(o.dx==0)=false:=by simp [z1]
       clear hZ
       (unfold Gives;go_enter Tryz.func105,Tryz.ntmps105)
       go_wp2_with (first|(go_at_call 106;(with_reducible refine (vbetw_eq h1 _).mono ?_);intro _)|(go_at_call 106;(with_reducible refine (vbetw_eq h2 _).mono ?_);intro _)|(go_at_call 106;(with_reducible refine (vbetw_eq h3 _).mono ?_);intro _)|(go_at_call 106;(with_reducible refine (vbetw_eq h5 _).mono ?_);intro _)|(go_at_call 106;(with_reducible refine (vbetw_eq h6 _).mono ?_);intro _)|(go_at_call 106;(with_reducible refine (vbetw_eq h7 _).mono ?_);intro _)|(go_at_call 148;(with_reducible refine (HS.out _ Up.go _ hst).mono ?_);intro _)|(go_at_call 149;(with_reducible refine (HC.out _ Up.go _ _ _ hb).mono ?_);intro _))
       go_ret
       exact ⟨rfl,Up.go⟩
     · replace z1:(o.dx==0)=true:=by simp [z1]
       replace z2:(o.dy==0)=false:=by simp [z2]
       clear hZ
       (unfold Gives;go_enter Tryz.func105,Tryz.ntmps105)
       go_wp2_with (first|(go_at_call 106;(with_reducible refine (vbetw_eq h1 _).mono ?_);intro _)|(go_at_call 106;(with_reducible refine (vbetw_eq h2 _).mono ?_);intro _)|(go_at_call 106;(with_reducible refine (vbetw_eq h3 _).mono ?_);intro _)|(go_at_call 106;(with_reducible refine (vbetw_eq h5 _).mono ?_);intro _)|(go_at_call 106;(with_reducible refine (vbetw_eq h6 _).mono ?_);intro _)|(go_at_call 106;(with_reducible refine (vbetw_eq h7 _).mono ?_);intro _)|(go_at_call 148;(with_reducible refine (HS.out _ Up.go _ hst).mono ?_);intro _)|(go_at_call 149;(with_reducible refine (HC.out _ Up.go _ _ _ hb).mono ?_);intro _))
       go_ret
       exact ⟨rfl,Up.go⟩
   · have hE:offE0 s o=0:=by unfold offE0;simp [k,h1,hst,h2,h3,h4,hct,h5,h6,h7,hZ]
     rw [hE]
     clear hE
     rcases hz2 with z1 | ⟨z1,z2⟩
     · replace z1:(o.dx==0)=false:=by simp [z1]
       clear hZ
       (unfold Gives;go_enter Tryz.func105,Tryz.ntmps105)
       go_wp2_with (first|(go_at_call 106;(with_reducible refine (vbetw_eq h1 _).mono ?_);intro _)|(go_at_call 106;(with_reducible refine (vbetw_eq h2 _).mono ?_);intro _)|(go_at_call 106;(with_reducible refine (vbetw_eq h3 _).mono ?_);intro _)|(go_at_call 106;(with_reducible refine (vbetw_eq h5 _).mono ?_);intro _)|(go_at_call 106;(with_reducible refine (vbetw_eq h6 _).mono ?_);intro _)|(go_at_call 106;(with_reducible refine (vbetw_eq h7 _).mono ?_);intro _)|(go_at_call 148;(with_reducible refine (HS.out _ Up.go _ hst).mono ?_);intro _)|(go_at_call 149;(with_reducible refine (HC.out _ Up.go _ _ _ hb).mono ?_);intro _))
       go_ret
       exact ⟨rfl,Up.go⟩
     · replace z1:(o.dx==0)=true:=by simp [z1]
       replace z2:(o.dy==0)=false:=by simp [z2]
       clear hZ
       (unfold Gives;go_enter Tryz.func105,Tryz.ntmps105)
       go_wp2_with (first|(go_at_call 106;(with_reducible refine (vbetw_eq h1 _).mono ?_);intro _)|(go_at_call 106;(with_reducible refine (vbetw_eq h2 _).mono ?_);intro _)|(go_at_call 106;(with_reducible refine (vbetw_eq h3 _).mono ?_);intro _)|(go_at_call 106;(with_reducible refine (vbetw_eq h5 _).mono ?_);intro _)|(go_at_call 106;(with_reducible refine (vbetw_eq h6 _).mono ?_);intro _)|(go_at_call 106;(with_reducible refine (vbetw_eq h7 _).mono ?_);intro _)|(go_at_call 148;(with_reducible refine (HS.out _ Up.go _ hst).mono ?_);intro _)|(go_at_call 149;(with_reducible refine (HC.out _ Up.go _ _ _ hb).mono ?_);intro _))
       go_ret
       exact ⟨rfl,Up.go⟩
 · skip
   by_cases h1:withinB o.tick 0 1073741824=true
   rotate_left
   · replace h1:withinB o.tick 0 1073741824=false:=Bool.eq_false_iff.2 h1
     have hE:offE0 s o=2:=by unfold offE0;simp [k,h1]
     rw [hE]
     clear hE
     (unfold Gives;go_enter Tryz.func105,Tryz.ntmps105)
     go_wp2_with (first|(go_at_call 106;(with_reducible refine (vbetw_eq h1 _).mono ?_);intro _))
     go_ret
     exact ⟨rfl,Up.go⟩
   by_cases hst:(s.stations.any fun x=>x.1==o.station)=true
   rotate_left
   · replace hst:(s.stations.any fun x=>x.1==o.station)=false:=Bool.eq_false_iff.2 hst
     have hE:offE0 s o=7:=by unfold offE0;simp [k,h1,hst]
     rw [hE]
     clear hE
     (unfold Gives;go_enter Tryz.func105,Tryz.ntmps105)
     go_wp2_with (first|(go_at_call 106;(with_reducible refine (vbetw_eq h1 _).mono ?_);intro _)|(go_at_call 148;(with_reducible refine (HS.out _ Up.go _ hst).mono ?_);intro _))
     go_ret
     exact ⟨rfl,Up.go⟩
   by_cases h2:withinB o.err 0 500000=true
   rotate_left
   · replace h2:withinB o.err 0 500000=false:=Bool.eq_false_iff.2 h2
     have hE:offE0 s o=2:=by unfold offE0;simp [k,h1,hst,h2]
     rw [hE]
     clear hE
     (unfold Gives;go_enter Tryz.func105,Tryz.ntmps105)
     go_wp2_with (first|(go_at_call 106;(with_reducible refine (vbetw_eq h1 _).mono ?_);intro _)|(go_at_call 106;(with_reducible refine (vbetw_eq h2 _).mono ?_);intro _)|(go_at_call 148;(with_reducible refine (HS.out _ Up.go _ hst).mono ?_);intro _))
     go_ret
     exact ⟨rfl,Up.go⟩
   by_cases h3:withinB o.far 1 134217728=true
   rotate_left
   · replace h3:withinB o.far 1 134217728=false:=Bool.eq_false_iff.2 h3
     have hE:offE0 s o=2:=by unfold offE0;simp [k,h1,hst,h2,h3]
     rw [hE]
     clear hE
     (unfold Gives;go_enter Tryz.func105,Tryz.ntmps105)
     go_wp2_with (first|(go_at_call 106;(with_reducible refine (vbetw_eq h1 _).mono ?_);intro _)|(go_at_call 106;(with_reducible refine (vbetw_eq h2 _).mono ?_);intro _)|(go_at_call 106;(with_reducible refine (vbetw_eq h3 _).mono ?_);intro _)|(go_at_call 148;(with_reducible refine (HS.out _ Up.go _ hst).mono ?_);intro _))
     go_ret
     exact ⟨rfl,Up.go⟩
   rcases cost_cases o.cost with ⟨h4,g1,g2⟩ | ⟨h4,g1⟩ | ⟨h4,g1,g2⟩
   rotate_left
   · have hE:offE0 s o=2:=by unfold offE0;simp [k,h1,hst,h2,h3,h4]
     rw [hE]
     clear hE
     (unfold Gives;go_enter Tryz.func105,Tryz.ntmps105)
     go_wp2_with (first|(go_at_call 106;(with_reducible refine (vbetw_eq h1 _).mono ?_);intro _)|(go_at_call 106;(with_reducible refine (vbetw_eq h2 _).mono ?_);intro _)|(go_at_call 106;(with_reducible refine (vbetw_eq h3 _).mono ?_);intro _)|(go_at_call 148;(with_reducible refine (HS.out _ Up.go _ hst).mono ?_);intro _))
     go_ret
     exact ⟨rfl,Up.go⟩
   · have hE:offE0 s o=2:=by unfold offE0;simp [k,h1,hst,h2,h3,h4]
     rw [hE]
     clear hE
     (unfold Gives;go_enter Tryz.func105,Tryz.ntmps105)
     go_wp2_with (first|(go_at_call 106;(with_reducible refine (vbetw_eq h1 _).mono ?_);intro _)|(go_at_call 106;(with_reducible refine (vbetw_eq h2 _).mono ?_);intro _)|(go_at_call 106;(with_reducible refine (vbetw_eq h3 _).mono ?_);intro _)|(go_at_call 148;(with_reducible refine (HS.out _ Up.go _ hst).mono ?_);intro _))
     go_ret
     exact ⟨rfl,Up.go⟩
   have hE:offE0 s o=0:=by unfold offE0;simp [k,h1,hst,h2,h3,h4]
   rw [hE]
   clear hE
   (unfold Gives;go_enter Tryz.func105,Tryz.ntmps105)
   go_wp2_with (first|(go_at_call 106;(with_reducible refine (vbetw_eq h1 _).mono ?_);intro _)|(go_at_call 106;(with_reducible refine (vbetw_eq h2 _).mono ?_);intro _)|(go_at_call 106;(with_reducible refine (vbetw_eq h3 _).mono ?_);intro _)|(go_at_call 148;(with_reducible refine (HS.out _ Up.go _ hst).mono ?_);intro _))
   go_ret
   exact ⟨rfl,Up.go⟩
theorem vCheck_any {K:Nat→Prop} {w:World} {a sa ca:Option Addr} {n c sn sc cn cc:Nat} {s:SkyD} (hL:SkyL K w a n c sa sn sc ca cn cc s) (o:OffD):Gives Tryz.prog 116 #[.agg #[.slice a n c,.int .i64 s.home,.slice sa sn sc,.slice ca cn cc],.agg (offA o)] w (.int .i64 (offE s o)):=by
 have HC:=hide (fun W (hu:Up w W)=>scheck_any (hL.up hu).b hL.h (hL.up hu).st (hL.up hu).ca)
 have HO:=hide (fun W (hu:Up w W)=>voffer_any (hL.up hu) o)
 unfold offE
 by_cases he:skyE s=0
 · rw [if_pos he]
   rw [he] at HC
   generalize offE0 s o=E at *
   generalize s.home=home at *
   clear hL he
   (unfold Gives;go_enter Tryz.func116,Tryz.ntmps116)
   go_wp2_with (first|(go_at_call 103;(with_reducible refine (HC.out _ Up.go).mono ?_);intro _)|(go_at_call 105;(with_reducible refine (HO.out _ Up.go).mono ?_);intro _))
   go_ret
   exact ⟨rfl,Up.go⟩
 · rw [if_neg he]
   have heb:(skyE s != 0)=true:=by simp [he]
   generalize skyE s=e at *
   generalize s.home=home at *
   clear hL he HO
   (unfold Gives;go_enter Tryz.func116,Tryz.ntmps116)
   go_wp2_with (go_at_call 103;(with_reducible refine (HC.out _ Up.go).mono ?_);intro _)
   go_ret
   exact ⟨rfl,Up.go⟩
theorem vField_any {K:Nat→Prop} {w:World} {a sa ca:Option Addr} {n c sn sc cn cc:Nat} {s:SkyD} (hL:SkyL K w a n c sa sn sc ca cn cc s) (o:OffD) (p:Int×Int):Gives Tryz.prog 69 #[.agg #[.slice a n c,.int .i64 s.home,.slice sa sn sc,.slice ca cn cc],.agg (offA o),.agg #[.int .i64 (p.1),.int .i64 (p.2)]] w (.bool (fieldV s o p)):=by
 have HC:=hide (fun W (hu:Up w W)=>vCheck_any (hL.up hu) o)
 obtain ⟨x,y⟩:=p
 have HN:=hide (fun W=>snear_any x y W)
 unfold fieldV
 dsimp only
 by_cases he:offE s o=0
 rotate_left
 · rw [decide_eq_false he,Bool.false_and]
   have heb:(offE s o==0)=false:=by simpa using he
   generalize offE s o=e at *
   generalize s.home=home at *
   clear hL he HN
   (unfold Gives;go_enter Tryz.func69,Tryz.ntmps69)
   go_wp2_with fail
   go_at_call 116
   refine forgetK (fun V=>Up w V∧Box V w.heap.size #[.slice a n c,.int .i64 home,.slice sa sn sc,.slice ca cn cc] 29∧Box V (w.heap.size+1) (offA o) 50∧Box V (w.heap.size+1+1) #[.int .i64 (x),.int .i64 (y)] 48) ⟨Up.go,Box.go,Box.go,Box.go⟩ ?_
   rintro V ⟨hu,b0,b1,b2⟩
   obtain ⟨s0,s1,s2,s3⟩:=b0.c4
   have ls:=b0.lt
   obtain ⟨f0,f1,f2,f3,f4,f5,f6,f7,f8,f9,f10⟩:=b1.c11
   have lf:=b1.lt
   obtain ⟨g0,g1⟩:=b2.c2
   have lg:=b2.lt
   have HB:=hide (hu)
   clear hu b0 b1 b2
   refine (HC.out _ HB.out).mono ?_
   intro q1
   go_wp2
   go_ret
   exact ⟨rfl,(Up.via HB.out)⟩
 rw [decide_eq_true he,Bool.true_and]
 rw [he] at HC
 by_cases hN:nearV 33554432 (x,y)=true
 rotate_left
 · replace hN:nearV 33554432 (x,y)=false:=Bool.eq_false_iff.2 hN
   rw [hN] at HN
   rw [hN,Bool.false_and]
   generalize s.home=home at *
   clear hL he hN
   (unfold Gives;go_enter Tryz.func69,Tryz.ntmps69)
   go_wp2_with fail
   go_at_call 116
   refine forgetK (fun V=>Up w V∧Box V w.heap.size #[.slice a n c,.int .i64 home,.slice sa sn sc,.slice ca cn cc] 29∧Box V (w.heap.size+1) (offA o) 50∧Box V (w.heap.size+1+1) #[.int .i64 (x),.int .i64 (y)] 48) ⟨Up.go,Box.go,Box.go,Box.go⟩ ?_
   rintro V ⟨hu,b0,b1,b2⟩
   obtain ⟨s0,s1,s2,s3⟩:=b0.c4
   have ls:=b0.lt
   obtain ⟨f0,f1,f2,f3,f4,f5,f6,f7,f8,f9,f10⟩:=b1.c11
   have lf:=b1.lt
   obtain ⟨g0,g1⟩:=b2.c2
   have lg:=b2.lt
   have HB:=hide (hu)
   clear hu b0 b1 b2
   refine (HC.out _ HB.out).mono ?_
   intro q1
   go_wp2_with (go_at_call 117;(with_reducible refine (HN.out _).mono ?_);intro _)
   go_ret
   exact ⟨rfl,(Up.via HB.out)⟩
 rw [hN] at HN
 rw [hN,Bool.true_and]
 have HF:=hide (fun W (hu:Up w W)=>vfield0_any (hL.up hu) o he ((nearV_iff _ _).1 hN))
 generalize fieldK (kndOf s o) (x,y)=F at *
 generalize s.home=home at *
 clear hL he hN
 (unfold Gives;go_enter Tryz.func69,Tryz.ntmps69)
 go_wp2_with fail
 go_at_call 116
 refine forgetK (fun V=>Up w V∧Box V w.heap.size #[.slice a n c,.int .i64 home,.slice sa sn sc,.slice ca cn cc] 29∧Box V (w.heap.size+1) (offA o) 50∧Box V (w.heap.size+1+1) #[.int .i64 (x),.int .i64 (y)] 48) ⟨Up.go,Box.go,Box.go,Box.go⟩ ?_
 rintro V ⟨hu,b0,b1,b2⟩
 obtain ⟨s0,s1,s2,s3⟩:=b0.c4
 have ls:=b0.lt
 obtain ⟨f0,f1,f2,f3,f4,f5,f6,f7,f8,f9,f10⟩:=b1.c11
 have lf:=b1.lt
 obtain ⟨g0,g1⟩:=b2.c2
 have lg:=b2.lt
 have HB:=hide (hu)
 clear hu b0 b1 b2
 refine (HC.out _ HB.out).mono ?_
 intro q1
 go_wp2_with (first|(go_at_call 117;(with_reducible refine (HN.out _).mono ?_);intro _)|(go_at_call 118;(with_reducible refine (HF.out _ (by repeat (first|with_reducible exact HB.out|with_reducible apply Up.ext|with_reducible apply Up.alloc|with_reducible apply Up.drew))).mono ?_);intro _))
 go_ret
 exact ⟨rfl,(Up.via HB.out)⟩
theorem pbd_near {q:Int×Int} (h:PBd q):nearV 33554432 q=true:=(nearV_iff _ _).2 h
theorem field_eq {s:SkyD} {o:OffD} {q:Int×Int} (ho:offE s o=0) (hq:PBd q):fieldV s o q=fieldK (kndOf s o) q:=by
 unfold fieldV
 rw [decide_eq_true ho,pbd_near hq,Bool.true_and,Bool.true_and]
theorem view_eq {s:SkyD} {o:OffD} {a:Ar4} (ho:offE s o=0) (ha:ABd a):viewV s o a=(viewK (kndOf s o) a,0):=by
 unfold viewV
 rw [if_pos ho,if_pos ((areaB_iff a).2 ha)]
theorem sure_may {k:KndD} {a:Ar4} (ha:ABd a) (h:(cornersA a).all (fieldK k)=true):mayK k a=true:=by
 rw [List.all_eq_true] at h
 have hc:(a.1,a.2.2.1)∈cornersA a:=by simp [cornersA]
 exact field_may (corner_in ha _ hc) (h _ hc)
theorem reads_cases (s:SkyD) (o:OffD) (q:Int×Int):(fieldV s o q=true∧(readsK (kndOf s o) q).1≤(readsK (kndOf s o) q).2∧readsV s o q=(((readsK (kndOf s o) q).1,(readsK (kndOf s o) q).2),true)) ∨
 (¬ (fieldV s o q=true∧(readsK (kndOf s o) q).1≤(readsK (kndOf s o) q).2)∧readsV s o q=((0,0),false)):=by
 unfold readsV
 by_cases h:fieldV s o q=true∧(readsK (kndOf s o) q).1≤(readsK (kndOf s o) q).2
 · rw [if_pos h];exact .inl ⟨h.1,h.2,rfl⟩
 · rw [if_neg h];exact .inr ⟨h,rfl⟩
theorem places_facts {s:SkyD} {o:OffD} {a:Ar4} {q:Int×Int} (ho:offE s o=0) (ha:ABd a) (hq:InA q a) :
 ∃ (may sure:Bool) (v1 v2:Int) (F:Bool) (l1 l2:Int) (is:Bool),viewV s o a=((may,sure,v1,v2),0)∧fieldV s o q=F∧readsV s o q=((l1,l2),is)∧(sure=true→may=true)∧(sure=true→F=true)∧(F=true→may=true)∧(is=true→F=true)∧(is=true→l1≤l2∧v1≤l1∧l2≤v2):=by
 have hk:=kbd_of ho
 have hp:=hq.bd ha
 have hF:=field_eq ho hp
 rcases reads_cases s o q with ⟨h1,h2,h3⟩ | ⟨_,h3⟩
 · rw [hF] at h1
   obtain ⟨g1,g2,_⟩:=reads_in hk ha hq h1
   have hm:=field_may hq h1
   refine ⟨mayK (kndOf s o) a,(cornersA a).all (fieldK (kndOf s o)),clampS (valuesK (kndOf s o) a).1,clampS (valuesK (kndOf s o) a).2,_,_,_,_,?_,hF,h3,sure_may ha,sure_field hq,field_may hq,fun _=>h1,fun _=>⟨h2,g1,g2⟩⟩
   rw [view_eq ho ha]
   unfold viewK
   rw [if_pos hm]
 · refine ⟨mayK (kndOf s o) a,(cornersA a).all (fieldK (kndOf s o)),(viewK (kndOf s o) a).2.2.1,(viewK (kndOf s o) a).2.2.2,_,_,_,_,?_,hF,h3,sure_may ha,sure_field hq,field_may hq,fun h=>by (cases h),fun h=>by (cases h)⟩
   rw [view_eq ho ha]
   rfl
theorem reads_facts {s:SkyD} {o:OffD} {q:Int×Int} (ho:offE s o=0) (hq:PBd q) :
 ∃ (F:Bool) (l1 l2:Int) (is:Bool),fieldV s o q=F∧readsV s o q=((l1,l2),is)∧(is=true→F=true)∧((-2000000≤l1∧l1≤135000000) ∧ -2000000≤l2∧l2≤135000000) ∧
  (∀ v,agreesV s o 2 v q=(is&&withinB v l1 l2))∧(∀ v,agreesV s o 1 v q=!F)∧∀ v,agreesV s o 0 v q=true:=by
 have hk:=kbd_of ho
 have hn:=pbd_near hq
 have hF:=field_eq ho hq
 have hin:InA q (q.1,q.1,q.2,q.2):=⟨⟨Int.le_refl _,Int.le_refl _⟩,Int.le_refl _,Int.le_refl _⟩
 have hab:ABd (q.1,q.1,q.2,q.2):=⟨⟨hq.1.1,Int.le_refl _,hq.1.2⟩,hq.2.1,Int.le_refl _,hq.2.2⟩
 have a0:∀ v,agreesV s o 0 v q=true:=fun v=>by unfold agreesV;rw [if_pos ⟨ho,hn⟩,if_pos rfl]
 have a1:∀ v,agreesV s o 1 v q=!fieldK (kndOf s o) q:=fun v=>by unfold agreesV;rw [if_pos ⟨ho,hn⟩,if_neg (by decide),if_pos rfl]
 have a2:∀ v,agreesV s o 2 v q=(fieldK (kndOf s o) q&&withinB v (readsK (kndOf s o) q).1 (readsK (kndOf s o) q).2):=fun v=>by unfold agreesV;rw [if_pos ⟨ho,hn⟩,if_neg (by decide),if_neg (by decide),if_pos rfl]
 rcases reads_cases s o q with ⟨h1,h2,h3⟩ | ⟨h1,h3⟩
 · rw [hF] at h1
   refine ⟨fieldK (kndOf s o) q,_,_,_,hF,h3,fun _=>h1,(reads_in hk hab hin h1).2.2,fun v=>?_,a1,a0⟩
   rw [a2,h1]
 · rw [hF] at h1
   refine ⟨fieldK (kndOf s o) q,_,_,_,hF,h3,fun h=>by (cases h),by omega,fun v=>?_,a1,a0⟩
   rw [a2,Bool.false_and]
   cases hf:fieldK (kndOf s o) q with
   | false=>rfl
   | true =>
    have hc':¬ (readsK (kndOf s o) q).1≤(readsK (kndOf s o) q).2:=fun h=>h1 ⟨hf,h⟩
    rw [Bool.true_and]
    refine Bool.eq_false_iff.2 fun hw=>?_
    unfold withinB at hw
    simp only [decide_eq_true_eq] at hw
    omega
theorem bias_knd {s:SkyD} {o:OffD} (he:offE s o=0) (h:¬ o.kind=2):biasV s.catalogs o.catalog=(((kndOf s o).lo,(kndOf s o).hi),true):=by
 obtain ⟨hs,_,_,_,_,_,_,hrest⟩:=offE_zero he
 obtain ⟨hc,_⟩:=hrest h
 obtain ⟨x,hf,_,e,_⟩:=bias_ok hs hc
 obtain ⟨-,-,-,e1,e2,-⟩:=knd_sc (s:=s) h
 unfold biasV
 rw [hf,e1,e2,e]
theorem vRoot_eq {n:Int} (h0:0≤n) (h1:n≤4611686018427387904) (w:World):Gives Tryz.prog 161 #[.int .i64 n] w (.int .i64 (isq n)):=by
 have:=rRoot_any n (by omega) (by omega) w
 rwa [rootV_nonneg h0] at this
theorem vreads0_any {K:Nat→Prop} {w:World} {a sa ca:Option Addr} {n c sn sc cn cc:Nat} {s:SkyD} (hL:SkyL K w a n c sa sn sc ca cn cc s) (o:OffD) (he:offE s o=0) {x y:Int} (hp:PBd (x,y)) (hF:fieldK (kndOf s o) (x,y)=true):Gives Tryz.prog 119 #[.agg #[.slice a n c,.int .i64 s.home,.slice sa sn sc,.slice ca cn cc],.agg (offA o),.agg #[.int .i64 (x),.int .i64 (y)]] w (.agg #[.int .i64 ((readsK (kndOf s o) (x,y)).1),.int .i64 ((readsK (kndOf s o) (x,y)).2)]):=by
 have hk:=kbd_of he
 have hsq:=sq_bdK hk hp
 obtain ⟨-,-,-,ee⟩:=knd_wx s o
 have her:=hk.err
 by_cases h2:o.kind=2
 · have HT:=hide (fun W (hu:Up w W)=>vto_any (hL.up hu) o he hp)
   have HQ:=hide (fun W=>vsquare_any (x:=x - (kndOf s o).wx) (y:=y - (kndOf s o).wy) ⟨by have:=hsq.1.1.1;omega,by have:=hsq.1.1.2;omega⟩ ⟨by have:=hsq.1.2.1;omega,by have:=hsq.1.2.2;omega⟩ W)
   have hS:(x - (kndOf s o).wx)*(x - (kndOf s o).wx)+(y - (kndOf s o).wy)*(y - (kndOf s o).wy)=sqK (kndOf s o) (x,y):=rfl
   rw [hS] at HQ
   obtain ⟨-,-,h0,h1⟩:=hsq.2
   have HU:=hide (fun W=>vrootup_any h0 (by omega) W)
   have HR:=hide (fun W=>vRoot_eq h0 (by omega) W)
   have i1:=isq_spec (sqK (kndOf s o) (x,y)) h0 (by omega)
   have i2:=upq_spec (x:=sqK (kndOf s o) (x,y)) h0 (by omega)
   have i3:=isq_self h0 (by omega)
   have i4:upq (sqK (kndOf s o) (x,y))≤isq (sqK (kndOf s o) (x,y))+1:=by unfold upq;split <;> omega
   unfold readsK
   rw [if_neg (by rw [knd_ra h2];simp)]
   dsimp only
   rw [ee] at her ⊢
   replace i1:=i1.1
   replace i2:=i2.1
   have i5:isq (sqK (kndOf s o) (x,y))≤9290873254707200:=Int.le_trans i3 h1
   have i6:upq (sqK (kndOf s o) (x,y))≤9290873254707201:=by omega
   clear i3 i4
   generalize isq (sqK (kndOf s o) (x,y))=I at *
   generalize upq (sqK (kndOf s o) (x,y))=U at *
   generalize sqK (kndOf s o) (x,y)=Q at *
   have h2b:(o.kind==2)=true:=by simp [h2]
   clear h2 hS hsq ee hk he hL hp hF h0 h1
   generalize (kndOf s o).wx=wx at *
   generalize (kndOf s o).wy=wy at *
   generalize s.home=home at *
   (unfold Gives;go_enter Tryz.func119,Tryz.ntmps119)
   go_wp2_with fail
   go_at_call 151
   refine forgetK (fun V=>Up w V∧Box V w.heap.size #[.slice a n c,.int .i64 home,.slice sa sn sc,.slice ca cn cc] 29∧Box V (w.heap.size+1) (offA o) 50∧Box V (w.heap.size+1+1) #[.int .i64 (x),.int .i64 (y)] 48∧Box V (w.heap.size+1+1+1) #[.int .i64 (0),.int .i64 (0)] 31) ⟨Up.go,Box.go,Box.go,Box.go,Box.go⟩ ?_
   rintro V ⟨hu,b0,b1,b2,b3⟩
   obtain ⟨s0,s1,s2,s3⟩:=b0.c4
   have ls:=b0.lt
   obtain ⟨f0,f1,f2,f3,f4,f5,f6,f7,f8,f9,f10⟩:=b1.c11
   have lf:=b1.lt
   obtain ⟨g0,g1⟩:=b2.c2
   have lg:=b2.lt
   obtain ⟨z0,z1⟩:=b3.c2
   have lz:=b3.lt
   obtain ⟨fzz0,fzz1⟩:=b3.f2
   have HB:=hide (And.intro hu b3)
   clear hu b0 b1 b2 b3
   refine (HT.out _ HB.out.1).mono ?_
   intro q1
   go_wp2_with (go_at_call 159;(with_reducible refine (HQ.out _).mono ?_);intro _)
   ((first | with_reducible refine wp_region_ext_tail2 1 (by kernel_rfl) (by kernel_rfl) ?_ | refine wp_region_ext_tail 1 (by kernel_rfl) (by kernel_rfl) ?_);simp only [List.length_cons,List.length_nil,Nat.reduceAdd,Nat.reduceSub,List.take_succ_cons,List.take_zero,List.drop_succ_cons,List.drop_zero];(repeat (go_big_quiet_step ((first | (go_at_call 160;with_reducible exact Gives.inRegion (HU.out _)) | (go_at_call 161;with_reducible exact Gives.inRegion (HR.out _))))));refine wpQuiet_nil ?_;intro _ hw';obtain ⟨_,hw''⟩:=hw';subst hw'')
   go_wp2
   refine forgetW (fun WF=>Up w WF∧Box WF (w.heap.size+1+1+1) #[.int .i64 ((U - o.err)),.int .i64 ((I+o.err))] 31) ⟨(Up.viz HB.out.1),?_⟩ ?_
   · exact (by (repeat (first|with_reducible apply Box.ext|with_reducible apply Box.alloc|with_reducible apply Box.drew));exact ((HB.out.2.set 0 (.int .i64 (U - o.err))).set 1 (.int .i64 (I+o.err))))
   rintro WF ⟨huF,hbF⟩
   obtain ⟨w0,w1⟩:=hbF.c2
   (refine bodyPost_give huF rfl ⟨_,(by simp [results,Tryz.results119,go_sem,w0,w1];rfl),?_⟩)
   rfl
 · have HS:=hide (fun W (hu:Up w W)=>vslope_any (hL.up hu) o he h2 hp)
   have hd:0<doK (kndOf s o) (x,y):=field_front hF (knd_sc (s:=s) h2).1
   have hcr:=(cr_bdK hk hp).2.2
   have hmd:=mdE_bdd hk hp hd
   have HFL:=hide (fun W=>vfloor_any (a:=1000000*crK (kndOf s o) (x,y)) hd (by omega) (by omega) W)
   have HCE:=hide (fun W=>vceil_any (a:=1000000*crK (kndOf s o) (x,y)) hd (by omega) (by omega) W)
   have hbi:=hk.bias
   have HBI:=hide (fun W (hu:Up w W)=>vbias_eq (a:=a) (n:=n) (c:=c) (sa:=sa) (sn:=sn) (sc:=sc) (home:=s.home) (hL.up hu).ca (bias_knd he h2))
   have e1:(slopeK (kndOf s o) (x,y)).1=1000000*crK (kndOf s o) (x,y) / doK (kndOf s o) (x,y):=rfl
   have e2:(slopeK (kndOf s o) (x,y)).2 = -(-(1000000*crK (kndOf s o) (x,y)) / doK (kndOf s o) (x,y)):=rfl
   rw [← e1] at HFL
   rw [← e2] at HCE
   unfold readsK
   rw [if_pos (knd_sc (s:=s) h2).1]
   dsimp only
   rw [ee] at her ⊢
   have h2b:(o.kind==2)=false:=by simp [h2]
   clear e1 e2 hF h2 hsq ee hk he hL hp
   generalize (slopeK (kndOf s o) (x,y)).1=S1 at *
   generalize (slopeK (kndOf s o) (x,y)).2=S2 at *
   generalize crK (kndOf s o) (x,y)=C at *
   generalize doK (kndOf s o) (x,y)=D at *
   generalize (kndOf s o).lo=lo at *
   generalize (kndOf s o).hi=hi at *
   generalize s.home=home at *
   (unfold Gives;go_enter Tryz.func119,Tryz.ntmps119)
   go_wp2_with fail
   go_at_call 109
   refine forgetK (fun V=>Up w V∧Box V w.heap.size #[.slice a n c,.int .i64 home,.slice sa sn sc,.slice ca cn cc] 29∧Box V (w.heap.size+1) (offA o) 50∧Box V (w.heap.size+1+1) #[.int .i64 (x),.int .i64 (y)] 48∧Box V (w.heap.size+1+1+1) #[.int .i64 (0),.int .i64 (0)] 31) ⟨Up.go,Box.go,Box.go,Box.go,Box.go⟩ ?_
   rintro V ⟨hu,b0,b1,b2,b3⟩
   obtain ⟨s0,s1,s2,s3⟩:=b0.c4
   have ls:=b0.lt
   obtain ⟨f0,f1,f2,f3,f4,f5,f6,f7,f8,f9,f10⟩:=b1.c11
   have lf:=b1.lt
   obtain ⟨g0,g1⟩:=b2.c2
   have lg:=b2.lt
   obtain ⟨z0,z1⟩:=b3.c2
   have lz:=b3.lt
   obtain ⟨fzz0,fzz1⟩:=b3.f2
   have HB:=hide (And.intro hu b3)
   clear hu b0 b1 b2 b3
   refine (HS.out _ HB.out.1).mono ?_
   intro q1
   go_wp2_with fail
   go_at_call 149
   refine (HBI.out _ (by repeat (first|with_reducible exact HB.out.1|with_reducible apply Up.ext|with_reducible apply Up.alloc|with_reducible apply Up.drew))).mono ?_
   intro q2
   go_wp2_with fail
   ((first | with_reducible refine wp_region_ext_tail2 1 (by kernel_rfl) (by kernel_rfl) ?_ | refine wp_region_ext_tail 1 (by kernel_rfl) (by kernel_rfl) ?_);simp only [List.length_cons,List.length_nil,Nat.reduceAdd,Nat.reduceSub,List.take_succ_cons,List.take_zero,List.drop_succ_cons,List.drop_zero];(repeat (go_big_quiet_step ((first | (go_at_call 162;with_reducible exact Gives.inRegion (HCE.out _)) | (go_at_call 163;with_reducible exact Gives.inRegion (HFL.out _))))));refine wpQuiet_nil ?_;intro _ hw';obtain ⟨_,hw''⟩:=hw';subst hw'')
   go_wp2
   refine forgetW (fun WF=>Up w WF∧Box WF (w.heap.size+1+1+1) #[.int .i64 ((S2 - hi - o.err)),.int .i64 ((S1 - lo+o.err))] 31) ⟨(Up.viz HB.out.1),?_⟩ ?_
   · exact (by (repeat (first|with_reducible apply Box.ext|with_reducible apply Box.alloc|with_reducible apply Box.drew));exact ((HB.out.2.set 0 (.int .i64 (S2 - hi - o.err))).set 1 (.int .i64 (S1 - lo+o.err))))
   rintro WF ⟨huF,hbF⟩
   obtain ⟨w0,w1⟩:=hbF.c2
   (refine bodyPost_give huF rfl ⟨_,(by simp [results,Tryz.results119,go_sem,w0,w1];rfl),?_⟩)
   rfl
end Go.Proofs.YteafglginnonnaaGreat
