/- Several texts in one. -/
import Derived.Test.YteafglginnonnaaGreatWatT
import Derived.DeepKeys
import Derived.MapKept
import Derived.RangeFuncRecord
import Derived.Test.YteafglginnonnaaGreatW6b
import Derived.Test.YteafglginnonnaaGreatSkyU
import Derived.Test.YteafglginnonnaaGreatRootR
import Derived.Test.YteafglginnonnaaGreatSkyR
import Derived.Test.YteafglginnonnaaGreatModk
import Derived.Test.YteafglginnonnaaGreatWatchJ
import Derived.Test.YteafglginnonnaaGreatWatchF
/- The map of views: what it holds, written and read. Conditions: small numbers; what lies in memory. -/
set_option linter.unusedVariables false
set_option linter.unusedSimpArgs false
namespace Go.Proofs.YteafglginnonnaaGreat
open Go.RowKit Go.Shelf
theorem i64_wf {a:Int} (h:I64 a):(Lit.int .i64 a).wf=true:=by
 unfold I64 at h
 simpa [Lit.wf,IntKind.min,IntKind.max,IntKind.signed,IntKind.bits] using h
theorem cell_lits {a b:Int} (ha:I64 a) (hb:I64 b):Program.keyLits Tryz.prog 2 146 [.int .i64 a,.int .i64 b]=some [.int .i64 a,.int .i64 b]:=by
 have w1:(Lit.int .i64 a).wf=true:=i64_wf ha
 have w2:(Lit.int .i64 b).wf=true:=i64_wf hb
 have c1:Tryz.prog.cellsOf 3=1:=by kernel_rfl
 have c2:Tryz.prog.cellsOf 146=2:=by kernel_rfl
 have u1:=Tryz.underlying146
 have u2:=Tryz.underlying3
 unfold Program.keyLits
 rw [u1]
 simp only [c2,List.length_cons,List.length_nil]
 rw [if_pos trivial]
 have e1:Program.keyLits Tryz.prog 1 3 [.int .i64 a]=some [.int .i64 a]:=by
  unfold Program.keyLits
  rw [u2]
  simp [w1]
 have e2:Program.keyLits Tryz.prog 1 3 [.int .i64 b]=some [.int .i64 b]:=by
  unfold Program.keyLits
  rw [u2]
  simp [w2]
 simp [List.range_succ,c1,e1,e2]
theorem equal_cell {a b c d:Int} (ha:I64 a) (hb:I64 b) (hc:I64 c) (hd:I64 d) (w:World):∃ r:Bool,(Op.equal 146 (.agg #[.int .i64 (a),.int .i64 (b)]) (.agg #[.int .i64 (c),.int .i64 (d)])).run Tryz.prog w=.ok r w∧(r=true↔a=c∧b=d):=by
 obtain ⟨r,h1,h2⟩:=run_equalIn_deep (P:=Tryz.prog) 9998 2 146 (by kernel_rfl) w 2 2 (.agg #[.int .i64 (a),.int .i64 (b)]) (.agg #[.int .i64 (c),.int .i64 (d)]) [.int .i64 a,.int .i64 b] [.int .i64 c,.int .i64 d] (by kernel_rfl) (by kernel_rfl) (cell_lits ha hb) (cell_lits hc hd)
 exact ⟨r,h1,h2.trans (by simp)⟩
theorem check_cell (e:Bool) (a b:Int) (w:World):(Instr.checkKey e 10000 146 (.agg #[.int .i64 (a),.int .i64 (b)])).run Tryz.prog w=.ok () w:=by
 cases e
 · kernel_rfl
 · kernel_rfl
abbrev Ent:=Int×Int×(Bool×Bool×Int×Int)
abbrev vwA (v:Bool×Bool×Int×Int):Array Value:=#[.bool v.1,.bool v.2.1,.int .i64 v.2.2.1,.int .i64 v.2.2.2]
def entL (l:List Ent):List MapEntry:=l.mapIdx fun i x=>{ key:=.agg #[.int .i64 (x.1),.int .i64 (x.2.1)],val:=.agg (vwA x.2.2),born:=i }
def MapV (w:World) (b:Nat) (l:List Ent):Prop:=w.heap[b]?=some (.map (entL l).toArray l.length)
def KeyOk (l:List Ent):Prop:=∀ x∈l,I64 x.1∧I64 x.2.1
theorem entL_snoc (l:List Ent) (x:Ent):entL (l++[x])=entL l++[{ key:=.agg #[.int .i64 (x.1),.int .i64 (x.2.1)],val:=.agg (vwA x.2.2),born:=l.length }]:=by
 unfold entL
 rw [List.mapIdx_append]
 simp
theorem asking_none (w:World) {a b:Int} (ha:I64 a) (hb:I64 b):∀ (es:List MapEntry) (i:Nat),(∀ e∈es,∃ c d:Int,e.key=.agg #[.int .i64 (c),.int .i64 (d)]∧I64 c∧I64 d∧¬ (a=c∧b=d))→(Instr.findAsking 146 (.agg #[.int .i64 (a),.int .i64 (b)]) es i).run Tryz.prog w=.ok none w
 | [],i,_=>rfl
 | e::es,i,h=>by
  obtain ⟨c,d,hk,hc,hd,hne⟩:=h e (by simp)
  obtain ⟨r,h1,h2⟩:=equal_cell ha hb hc hd w
  have hr:r=false:=by
   cases r with
   | false=>rfl
   | true=>exact absurd (h2.1 rfl) hne
  subst hr
  unfold Instr.findAsking
  rw [hk]
  simp only [Sem.run_bind,h1,Result.andThen_ok]
  exact asking_none w ha hb es (i+1) fun x hx=>h x (by simp [hx])
theorem asking_some (w:World) {a b:Int} (ha:I64 a) (hb:I64 b):∀ (es:List MapEntry) (i j:Nat) (v:Value),(∀ e∈es,∃ c d:Int,e.key=.agg #[.int .i64 (c),.int .i64 (d)]∧I64 c∧I64 d∧(a=c∧b=d→e.val=v))→(∃ e∈es,e.key=.agg #[.int .i64 (a),.int .i64 (b)]) →
 ∃ n,(Instr.findAsking 146 (.agg #[.int .i64 (a),.int .i64 (b)]) es i).run Tryz.prog w=.ok (some (n,v)) w
 | [],i,j,v,_,h=>by obtain ⟨e,he,_⟩:=h;cases he
 | e::es,i,j,v,h,hex=>by
  obtain ⟨c,d,hk,hc,hd,hv⟩:=h e (by simp)
  obtain ⟨r,h1,h2⟩:=equal_cell ha hb hc hd w
  unfold Instr.findAsking
  rw [hk]
  simp only [Sem.run_bind,h1,Result.andThen_ok]
  cases r with
  | true =>
   rw [if_pos rfl,hv (h2.1 rfl)]
   exact ⟨i,rfl⟩
  | false =>
   rw [if_neg (by simp)]
   refine asking_some w ha hb es (i+1) j v (fun x hx=>h x (by simp [hx])) ?_
   obtain ⟨e',he',hk'⟩:=hex
   rcases List.mem_cons.1 he' with rfl | he'
   · rw [hk] at hk'
     simp at hk'
     exact absurd (h2.2 ⟨hk'.1.symm,hk'.2.symm⟩) (by simp)
   · exact ⟨e',he',hk'⟩
theorem findkey_ask (w:World) (a b:Int) (e:MapEntry) (es:List MapEntry):(Instr.findKey 146 (.agg #[.int .i64 (a),.int .i64 (b)]) (e::es)).run Tryz.prog w=(Instr.findAsking 146 (.agg #[.int .i64 (a),.int .i64 (b)]) (e::es) 0).run Tryz.prog w:=by
 unfold Instr.findKey
 have hu:(underlying 146).run Tryz.prog w=.ok (TypeDesc.array 2 3) w:=by kernel_rfl
 simp only [Sem.run_bind,hu,Result.andThen_ok]
 rfl
theorem findkey_nil (w:World) (a b:Int):(Instr.findKey 146 (.agg #[.int .i64 (a),.int .i64 (b)]) []).run Tryz.prog w=.ok none w:=by kernel_rfl
theorem entL_mem {l:List Ent} {e:MapEntry} (he:e∈entL l):∃ x∈l,e.key=.agg #[.int .i64 (x.1),.int .i64 (x.2.1)]∧e.val=.agg (vwA x.2.2):=by
 unfold entL at he
 obtain ⟨i,hi,rfl⟩:=List.getElem_of_mem he
 rw [List.getElem_mapIdx]
 exact ⟨l[i]'(by simpa using hi),List.getElem_mem _,rfl,rfl⟩
theorem mem_entL {l:List Ent} {x:Ent} (hx:x∈l):∃ e∈entL l,e.key=.agg #[.int .i64 (x.1),.int .i64 (x.2.1)]:=by
 obtain ⟨i,hi,rfl⟩:=List.getElem_of_mem hx
 unfold entL
 exact ⟨_,List.getElem_mem (n:=i) (by simpa using hi),by rw [List.getElem_mapIdx]⟩
theorem mapv_key {w:World} {l:List Ent} (hk:KeyOk l) {i k:Int} (hi:I64 i) (hkk:I64 k) (hnew:∀ x∈l,¬ (i=x.1∧k=x.2.1)):(Instr.findKey 146 (.agg #[.int .i64 (i),.int .i64 (k)]) (entL l)).run Tryz.prog w=.ok none w:=by
 cases hE:entL l with
 | nil=>exact findkey_nil w i k
 | cons e es =>
  rw [findkey_ask,← hE]
  refine asking_none w hi hkk _ 0 fun e' he'=>?_
  obtain ⟨x,hx,e1,_⟩:=entL_mem he'
  exact ⟨x.1,x.2.1,e1,(hk x hx).1,(hk x hx).2,hnew x hx⟩
theorem mapv_found {w:World} {l:List Ent} (hk:KeyOk l) {i k:Int} (hi:I64 i) (hkk:I64 k) {v:Bool×Bool×Int×Int} (hin:(i,k,v)∈l) (hu:∀ x∈l,x.1=i→x.2.1=k→x.2.2=v):∃ n,(Instr.findKey 146 (.agg #[.int .i64 (i),.int .i64 (k)]) (entL l)).run Tryz.prog w=.ok (some (n,.agg (vwA v))) w:=by
 obtain ⟨e0,he0,hk0⟩:=mem_entL hin
 cases hE:entL l with
 | nil=>rw [hE] at he0;cases he0
 | cons e es =>
  rw [findkey_ask,← hE]
  refine asking_some w hi hkk _ 0 0 _ (fun e' he'=>?_) ⟨e0,he0,hk0⟩
  obtain ⟨x,hx,e1,e2⟩:=entL_mem he'
  exact ⟨x.1,x.2.1,e1,(hk x hx).1,(hk x hx).2,fun h=>by rw [e2,hu x hx h.1.symm h.2.symm]⟩
theorem mapv_update {w:World} {b:Nat} {l:List Ent} (h:MapV w b l) (hk:KeyOk l) {i k:Int} (hi:I64 i) (hkk:I64 k) (hnew:∀ x∈l,¬ (i=x.1∧k=x.2.1)) (v:Bool×Bool×Int×Int) :
 (Instr.mapUpdate 141 (.map (some b)) (.agg #[.int .i64 (i),.int .i64 (k)]) (.agg (vwA v))).run Tryz.prog w=.ok () (w.putObj b (.map (entL (l++[(i,k,v)])).toArray (l.length+1))):=by
 have hu:(underlying 141).run Tryz.prog w=.ok (TypeDesc.map 146 64) w:=by kernel_rfl
 unfold Instr.mapUpdate
 simp only [Sem.run_bind,hu,Result.andThen_ok,Go.MapKept.run_getObj_map (P:=Tryz.prog) h,check_cell,mapv_key hk hi hkk hnew]
 rw [Go.MapKept.run_setObj_map (P:=Tryz.prog) _ h]
 unfold World.putObj
 rw [entL_snoc]
 simp
theorem mapv_put {w:World} {b:Nat} {l:List Ent} (h:MapV w b l) (i k:Int) (v:Bool×Bool×Int×Int):MapV (w.putObj b (.map (entL (l++[(i,k,v)])).toArray (l.length+1))) b (l++[(i,k,v)]):=by
 have hb:b<w.heap.size:=(Array.getElem?_eq_some_iff.1 h).1
 unfold MapV World.putObj
 rw [Array.getElem?_setIfInBounds_self_of_lt hb,List.length_append]
 rfl
theorem mapv_lookup {w:World} {b:Nat} {l:List Ent} (h:MapV w b l) (hk:KeyOk l) {i k:Int} (hi:I64 i) (hkk:I64 k) {v:Bool×Bool×Int×Int} (hin:(i,k,v)∈l) (huq:∀ x∈l,x.1=i→x.2.1=k→x.2.2=v) :
 (Instr.lookup 141 (.map (some b)) (.agg #[.int .i64 (i),.int .i64 (k)]) false).run Tryz.prog w=.ok (.agg (vwA v)) w:=by
 have hu:(underlying 141).run Tryz.prog w=.ok (TypeDesc.map 146 64) w:=by kernel_rfl
 obtain ⟨n,hn⟩:=mapv_found (w:=w) hk hi hkk hin huq
 unfold Instr.lookup
 simp only [Sem.run_bind,hu,Result.andThen_ok,Go.MapKept.run_getObj_map (P:=Tryz.prog) h,Sem.run_pure,check_cell,hn]
 rfl
theorem MapV.up {w W:World} {b:Nat} {l:List Ent} (h:MapV w b l) (hu:Up w W):MapV W b l:=(hu.below.block b (Array.getElem?_eq_some_iff.1 h).1).trans h
end Go.Proofs.YteafglginnonnaaGreat
/- Plain Lean: the table of a plan, row by row. No program. -/
namespace Go.Proofs.YteafglginnonnaaGreat
open Go.RowKit
def tabU (R:Nat→OffD→List Ent) (offers:List OffD) (k j:Nat):List Ent:=((offers.take k).mapIdx R).flatten++(match offers[k]? with
 | some o=>(R k o).take j
 | none=>[])
theorem tabU_zero (R:Nat→OffD→List Ent) (offers:List OffD):tabU R offers 0 0=[]:=by
 unfold tabU
 cases offers <;> simp
theorem tabU_next {R:Nat→OffD→List Ent} {offers:List OffD} {k j:Nat} {o:OffD} {x:Ent} (ho:offers[k]?=some o) (hx:(R k o)[j]?=some x):tabU R offers k (j+1)=tabU R offers k j++[x]:=by
 unfold tabU
 rw [ho]
 dsimp only
 rw [List.take_add_one,hx,List.append_assoc]
 rfl
theorem tabU_row {R:Nat→OffD→List Ent} {offers:List OffD} {k j:Nat} {o:OffD} (ho:offers[k]?=some o) (hj:(R k o).length≤j):tabU R offers k j=tabU R offers (k+1) 0:=by
 unfold tabU
 rw [ho]
 dsimp only
 rw [List.take_of_length_le hj,List.take_add_one,ho,Option.toList_some,List.mapIdx_append,List.flatten_append]
 have hl:(offers.take k).length=k:=by
  have:=(List.getElem?_eq_some_iff.1 ho).1
  simp;omega
 cases offers[k+1]? <;> simp [hl]
theorem tabU_all {R:Nat→OffD→List Ent} {offers:List OffD} {k:Nat} (hk:offers.length≤k):tabU R offers k 0=(offers.mapIdx R).flatten:=by
 unfold tabU
 rw [List.take_of_length_le hk,List.getElem?_eq_none hk]
 simp
theorem tabU_mem {R:Nat→OffD→List Ent} {offers:List OffD} {k j:Nat} (hR:∀ (i:Nat) (o:OffD) (q:Nat) (x:Ent),(R i o)[q]?=some x→x.1=i∧x.2.1=q) (hl:∀ i o,o∈offers→(R i o).length≤1000) (hn:offers.length≤1000) {x:Ent} (hx:x∈tabU R offers k j) :
 (0≤x.1∧x.1≤1000)∧(0≤x.2.1∧x.2.1≤1000)∧(x.1<k∨(x.1=k∧x.2.1<j)):=by
 unfold tabU at hx
 rcases List.mem_append.1 hx with hx | hx
 · obtain ⟨row,hrow,hx⟩:=List.mem_flatten.1 hx
   obtain ⟨i,hi,rfl⟩:=List.getElem_of_mem hrow
   rw [List.getElem_mapIdx] at hx
   obtain ⟨q,hq,hxq⟩:=List.getElem_of_mem hx
   have h1:=hR i _ q x (by rw [List.getElem?_eq_getElem hq,hxq])
   have hi':i<(offers.take k).length:=by simpa using hi
   have hmem:(offers.take k)[i]∈offers:=List.mem_of_mem_take (List.getElem_mem hi')
   have h2:=hl i _ hmem
   simp at hi'
   omega
 · cases ho:offers[k]? with
   | none=>rw [ho] at hx;cases hx
   | some o =>
    rw [ho] at hx
    dsimp only at hx
    have hk:=(List.getElem?_eq_some_iff.1 ho).1
    have hx':=List.mem_of_mem_take hx
    obtain ⟨q,hq,hxq⟩:=List.getElem_of_mem hx
    rw [List.getElem_take] at hxq
    have hq2:q<(R k o).length:=by simp at hq;omega
    have hq3:q<j:=by simp at hq;omega
    have h1:=hR k o q x (by rw [List.getElem?_eq_getElem hq2,hxq])
    have h2:=hl k o (List.mem_of_getElem? ho)
    omega
theorem tabU_keyok {R:Nat→OffD→List Ent} {offers:List OffD} {k j:Nat} (hR:∀ (i:Nat) (o:OffD) (q:Nat) (x:Ent),(R i o)[q]?=some x→x.1=i∧x.2.1=q) (hl:∀ i o,o∈offers→(R i o).length≤1000) (hn:offers.length≤1000):KeyOk (tabU R offers k j)∧∀ x∈tabU R offers k j,¬ ((k:Int)=x.1∧(j:Int)=x.2.1):=by
 refine ⟨fun x hx=>?_,fun x hx h=>?_⟩
 · have:=tabU_mem hR hl hn hx
   unfold I64
   omega
 · have:=tabU_mem hR hl hn hx
   omega
theorem Keeps.put {K:Nat→Prop} {w W:World} (h:Keeps K w W) {D:Nat} (hD:¬ K D) (o:Obj):Keeps K w (W.putObj D o):=by
 refine h.trans ⟨by unfold World.putObj;simp,fun b hb hl=>?_⟩
 exact World.putObj_heap_other (fun e=>hD (e▸hb))
end Go.Proofs.YteafglginnonnaaGreat
/- Package watch: the plan of a valid watch. Conditions: what lies in memory, a valid watch. -/
namespace Go.Proofs.YteafglginnonnaaGreat
open Go.RowKit Go.Shelf
@[go_sem] theorem make_views (w:World):(Instr.makeMap 141 none).run Tryz.prog w=.ok (.map (some w.heap.size)) (w.alloc (.map #[] 0)):=by kernel_rfl
def cellA (b:BoxD):Ar4:=(b.x0,b.x1,b.y0,b.y1)
def cellsO (s:SkyD) (d:DriftD) (t:Int) (set:List BoxD) (o:OffD):List BoxD:=(propagateV s.bodies s.home d t (o.tick - t) set).1
def rowE (s:SkyD) (d:DriftD) (t:Int) (set:List BoxD) (i:Nat) (o:OffD):List Ent:=(cellsO s d t set o).mapIdx fun k b=>((i:Int),(k:Int),viewK (kndOf s o) (cellA b))
def tabE (s:SkyD) (d:DriftD) (t:Int) (set:List BoxD) (offers:List OffD):List Ent:=(offers.mapIdx (rowE s d t set)).flatten
theorem mapv_new {w:World} {B:Nat} {C:Array Value} {T:TypeId} (h:w.heap.size=B):MapV ((w.alloc (.map #[] 0)).alloc (.cells C T)) B []:=by
 subst h
 unfold MapV World.alloc
 simp [entL,Array.getElem?_push]
theorem watchE_zero {s:SkyD} {d:DriftD} {t:Int} {set:List BoxD} {offers:List OffD} (h:watchE s d t set offers=0):skyE s=0∧(propagateV s.bodies s.home d t 0 set).2=0∧(set.length≤100∧offers.length≤10)∧∀ o∈offers,offW s d t set o=0:=by
 unfold watchE at h
 by_cases h1:skyE s=0
 · rw [if_pos h1] at h
   by_cases h2:(propagateV s.bodies s.home d t 0 set).2=0
   · rw [if_pos h2] at h
     by_cases h3:100<set.length∨10<offers.length
     · rw [if_pos h3] at h;cases h
     · rw [if_neg h3] at h
       refine ⟨h1,h2,by omega,?_⟩
       clear h3
       induction offers with
       | nil=>intro o ho;cases ho
       | cons x l ih =>
        unfold firstE at h
        by_cases hx:offW s d t set x=0
        · rw [if_pos hx] at h
          intro o ho
          rcases List.mem_cons.1 ho with rfl | ho
          · exact hx
          · exact ih h o ho
        · rw [if_neg hx] at h;exact absurd h hx
   · rw [if_neg h2] at h;exact absurd h h2
 · rw [if_neg h1] at h;exact absurd h h1
theorem propagate_zero {bs:List Bod} {home:Int} {d:DriftD} {t m:Int} {l:List BoxD} (h:(propagateV bs home d t m l).2=0):∃ r,propV bs d m.toNat t l=some r∧(propagateV bs home d t m l).1=r∧(∀ b∈r,BOk b)∧r.length=l.length:=by
 unfold propagateV at h ⊢
 by_cases he:propE bs home d t m l=0
 · rw [if_pos he] at h ⊢
   obtain ⟨_,_,h3⟩:=propE_zero he
   obtain ⟨h4,h5⟩:=setE_zero h3
   have all:∀ (n:Nat) (r:List BoxD),propV bs d n t l=some r→(∀ b∈r,BOk b)∧r.length=l.length:=by
    intro n
    induction n with
    | zero=>intro r hr;cases hr;exact ⟨h5,rfl⟩
    | succ n ih =>
     intro r hr
     rw [propV_succ] at hr
     cases hq:propV bs d n t l with
     | none=>rw [hq] at hr;cases hr
     | some q =>
      rw [hq] at hr
      obtain ⟨e1,e2⟩:=stepsV_some (show stepsV bs d (t+n) q=some r from hr)
      exact ⟨e2,by rw [e1,List.length_map];exact (ih q hq).2⟩
   cases hq:propV bs d m.toNat t l with
   | none=>rw [hq] at h;cases h
   | some r=>exact ⟨r,rfl,rfl,all _ _ hq⟩
 · rw [if_neg he] at h;exact absurd h he
theorem offW_zero {s:SkyD} {d:DriftD} {t:Int} {set:List BoxD} {o:OffD} (h:offW s d t set o=0):offE s o=0∧(t≤o.tick∧o.tick≤t+400)∧(propagateV s.bodies s.home d t (o.tick - t) set).2=0∧(∀ b∈cellsO s d t set o,BOk b)∧(cellsO s d t set o).length=set.length:=by
 unfold offW at h
 by_cases h1:offE s o=0
 · rw [if_pos h1] at h
   by_cases h2:withinB o.tick t (t+400)=true
   · rw [if_pos h2] at h
     obtain ⟨r,_,e,h4,h5⟩:=propagate_zero h
     exact ⟨h1,by simpa [withinB] using h2,h,by unfold cellsO;rw [e];exact h4,by unfold cellsO;rw [e];exact h5⟩
   · rw [if_neg h2] at h;cases h
 · rw [if_neg h1] at h;exact absurd h h1
theorem cellA_bd {b:BoxD} (h:BOk b):ABd (cellA b):=⟨⟨h.x.1,h.x.2.1,h.x.2.2⟩,h.y.1,h.y.2.1,h.y.2.2⟩
structure PlanS (w:World) (sky dr pl:Array Value) (l:List Ent) (W:World):Prop where
 u:Up w W
 s:Box W w.heap.size sky 29
 d:Box W (w.heap.size+1) dr 33
 p:Box W (w.heap.size+1+1+1) pl 143
 m:MapV W (w.heap.size+1+1) l
theorem PlanS.up {w W V:World} {sky dr pl:Array Value} {l:List Ent} (h:PlanS w sky dr pl l W) (hu:Up W V):PlanS w sky dr pl l V:=⟨h.u.trans hu,h.s.up hu,h.d.up hu,h.p.up hu,h.m.up hu⟩
theorem PlanS.put {w W:World} {sky dr pl:Array Value} {l:List Ent} (h:PlanS w sky dr pl l W) (i k:Int) (v:Bool×Bool×Int×Int):PlanS w sky dr pl (l++[(i,k,v)]) (W.putObj (w.heap.size+1+1) (.map (entL (l++[(i,k,v)])).toArray (l.length+1))) :=
 ⟨.of_below (below_put h.u.below (by omega) _),h.s.put (by omega) _,h.d.put (by omega) _,h.p.put (by omega) _,mapv_put h.m i k v⟩
set_option maxRecDepth 100000 in
set_option maxHeartbeats 20000000 in
theorem newplan_any {K:Nat→Prop} {w:World} {a sa ca:Option Addr} {n c sn sc cn cc:Nat} {s:SkyD} (hL:SkyL K w a n c sa sn sc ca cn cc s) (d:DriftD) (t:Int) {KB:Nat→Prop} {ba:Option Addr} {bn bc:Nat} {set:List BoxD} (hB:Boxes KB w (.slice ba bn bc) set) {KO:Nat→Prop} {oa:Option Addr} {on oc:Nat} {offers:List OffD} (hO:Lst TOff KO w (.slice oa on oc) offers) (hW:watchE s d t set offers=0):Calls Tryz.prog 47 #[.agg #[.slice a n c,.int .i64 s.home,.slice sa sn sc,.slice ca cn cc],.agg #[.int .i64 (d.l.1),.int .i64 (d.l.2),.int .i64 (d.h.1),.int .i64 (d.h.2),.int .i64 (d.g)],.int .i64 t,.slice ba bn bc,.slice oa on oc] w fun e W=>∃ p:Ext,e=.returned (.pointer (some ⟨w.heap.size+1+1+1,0,none⟩))∧W=ext w p∧Box W (w.heap.size+1+1+1) #[.slice oa on oc,.int .i64 bn,.map (some (w.heap.size+1+1))] 143∧MapV W (w.heap.size+1+1) (tabE s d t set offers):=by
 have HO:=hide hO
 have hon:=(Offs.at hO).1
 have hom:=(Offs.at hO).2.1
 obtain ⟨hs0,hp0,hlen,hoff⟩:=watchE_zero hW
 have ht:=prop_tick hp0
 have HP:=hide (fun (m:Int) W (hu:Up w W)=>opropagate_any (hL.up hu).b (hL.up hu).h d (hB.keeps (hu.keeps KB)) t m)
 have HK:=hide (fun (o:OffD) (ho:offE s o=0) W (hu:Up w W)=>wof_any (hL.up hu).b (hL.up hu).h (hL.up hu).st (hL.up hu).ca ho)
 have HV:=hide (fun (o:OffD) (ho:offE s o=0) (b:BoxD) (hb:BOk b) W=>wview_k (kbd_of ho) (cellA_bd hb) W)
 have HF:=hide (fun (o:OffD) (ho:o∈offers)=>offW_zero (hoff o ho))
 have htt:0≤t∧t≤1073741824:=⟨ht.2.1,ht.2.2.1⟩
 have HN:=hide (And.intro hon hlen)
 have hon10:on≤10:=by omega
 obtain ⟨R,hR⟩:∃ R,R=rowE s d t set:=⟨_,rfl⟩
 have HR:=hide (show (∀ (i:Nat) (o:OffD) (q:Nat) (x:Ent),(R i o)[q]?=some x→x.1=i∧x.2.1=q)∧(∀ i o,o∈offers→(R i o).length≤1000)∧(∀ (i:Nat) (o:OffD) (q:Nat) (b:BoxD),(cellsO s d t set o)[q]?=some b→(R i o)[q]?=some ((i:Int),(q:Int),viewK (kndOf s o) (cellA b)))∧(∀ i o,(R i o).length=(cellsO s d t set o).length) from by
  rw [hR]
  refine ⟨fun i o q x h=>?_,fun i o ho=>?_,fun i o q b h=>?_,fun i o=>by unfold rowE;simp⟩
  · unfold rowE at h
    rw [List.getElem?_mapIdx] at h
    obtain ⟨b,_,rfl⟩:=Option.map_eq_some_iff.1 h
    exact ⟨rfl,rfl⟩
  · unfold rowE
    have:=(offW_zero (hoff o ho)).2.2.2.2
    simp only [List.length_mapIdx]
    omega
  · unfold rowE
    rw [List.getElem?_mapIdx,h]
    rfl)
 rw [show tabE s d t set offers=(offers.mapIdx R).flatten by rw [hR];rfl]
 have HPL:=hide (fun (o:OffD)=>show (propagateV s.bodies s.home d t (o.tick - t) set).1=cellsO s d t set o from rfl)
 generalize s.home=home at *
 clear hO hL hB hon hom hW hs0 hp0 hlen hoff ht hR
 go_enter Tryz.func47,Tryz.ntmps47
 go_wp2_with fail
 refine forgetW (fun wr=>PlanS w #[.slice a n c,.int .i64 home,.slice sa sn sc,.slice ca cn cc] #[.int .i64 (d.l.1),.int .i64 (d.l.2),.int .i64 (d.h.1),.int .i64 (d.h.2),.int .i64 (d.g)] #[.slice oa on oc,.int .i64 bn,.map (some (w.heap.size+1+1))] (tabU R offers 0 0) wr) ⟨(by repeat (first|with_reducible (first|exact Up.refl _|apply Up.plus)|apply Up.ext|apply Up.alloc|apply Up.drew|refine Up.setCell ?_ (by simp;try omega) _)),(by repeat (first|exact Box.mk rfl|(refine Box.mk ?_;simp;done)|apply Box.ext|apply Box.drew|apply Box.alloc|apply Box.two1|refine Box.other ?_ (by omega) _ _)),(by repeat (first|exact Box.mk rfl|(refine Box.mk ?_;simp;done)|apply Box.ext|apply Box.drew|apply Box.alloc|apply Box.two1|refine Box.other ?_ (by omega) _ _)),(by repeat (first|exact Box.mk rfl|(refine Box.mk ?_;simp;done)|apply Box.ext|apply Box.drew|apply Box.alloc|apply Box.two1|refine Box.other ?_ (by omega) _ _)),by rw [tabU_zero];exact mapv_new (by simp)⟩ ?_
 intro V0 h0
 have H0:=hide h0
 clear h0
 go_loopw [27] (fun s27 wr=>∃ k:Nat,k≤on∧s27=.int .i64 k∧Hid (PlanS w #[.slice a n c,.int .i64 home,.slice sa sn sc,.slice ca cn cc] #[.int .i64 (d.l.1),.int .i64 (d.l.2),.int .i64 (d.h.1),.int .i64 (d.h.2),.int .i64 (d.g)] #[.slice oa on oc,.int .i64 bn,.map (some (w.heap.size+1+1))] (tabU R offers k 0) wr)) (fun s27 _=>on - (intOf s27).toNat)
 case atStart=>exact ⟨0,by omega,rfl,H0⟩
 case round =>
  obtain ⟨k,hk,rfl,HI⟩:=hrel
  clear H0
  have s0:=(HI.out).s.cell 0 rfl
  have s1:=(HI.out).s.cell 1 rfl
  have s2:=(HI.out).s.cell 2 rfl
  have s3:=(HI.out).s.cell 3 rfl
  have ls:=(HI.out).s.lt
  have dd0:=(HI.out).d.cell 0 rfl
  have dd1:=(HI.out).d.cell 1 rfl
  have dd2:=(HI.out).d.cell 2 rfl
  have dd3:=(HI.out).d.cell 3 rfl
  have dd4:=(HI.out).d.cell 4 rfl
  have ldd:=(HI.out).d.lt
  have pw0:=(HI.out).p.cell 0 rfl
  have pw1:=(HI.out).p.cell 1 rfl
  have pw2:=(HI.out).p.cell 2 rfl
  have lpw:=(HI.out).p.lt
  by_cases hlt:k<on
  · have hkb:decide ((k:Int)<on)=true:=by simp;omega
    have hkn:decide (k<on)=true:=by simp;omega
    obtain ⟨ob,oo,o,rfl,_,how,hp,f0,f1,f2,f3,f4,f5,f6,f7,f8,f9,f10⟩:=(Offs.at (HO.out.keeps (HI.out.u.keeps KO))).2.2 k hlt
    have hmem:=List.mem_of_getElem? hp
    obtain ⟨g1,g2,g3,g4,g5⟩:=HF.out o hmem
    have HPo:=hide (HP.out (o.tick - t))
    have HKo:=hide (HK.out o g1)
    have HVo:=hide (HV.out o g1)
    have HG:=hide (And.intro hp (And.intro g4 g5))
    have htk:=g2
    have otk:0≤o.tick∧o.tick≤1073742224:=by omega
    clear hp hmem g1 g2 g3 g4 g5
    go_wp2_with fail
    go_at_call 43
    obtain ⟨go,hgo⟩:∃ g,g=wr.heap.size:=⟨_,rfl⟩
    try rw [← hgo]
    refine forgetK (fun V=>PlanS w #[.slice a n c,.int .i64 home,.slice sa sn sc,.slice ca cn cc] #[.int .i64 (d.l.1),.int .i64 (d.l.2),.int .i64 (d.h.1),.int .i64 (d.h.2),.int .i64 (d.g)] #[.slice (some ⟨ob,oo,none⟩) on oc,.int .i64 bn,.map (some (w.heap.size+1+1))] (tabU R offers k 0) V∧Box V go (offA o) 50) ⟨HI.out.up ((Up.refl _).alloc _),by rw [hgo];exact Box.mk rfl⟩ ?_
    clear hgo f0 f1 f2 f3 f4 f5 f6 f7 f8 f9 f10 HI how s0 s1 s2 s3 ls dd0 dd1 dd2 dd3 dd4 ldd pw0 pw1 pw2 lpw
    rintro V1 ⟨h1,hb⟩
    have o0:=hb.cell 0 rfl
    have o1:=hb.cell 1 rfl
    have o2:=hb.cell 2 rfl
    have o3:=hb.cell 3 rfl
    have o4:=hb.cell 4 rfl
    have o5:=hb.cell 5 rfl
    have o6:=hb.cell 6 rfl
    have o7:=hb.cell 7 rfl
    have o8:=hb.cell 8 rfl
    have o9:=hb.cell 9 rfl
    have o10:=hb.cell 10 rfl
    have lo9:=hb.lt
    have HI:=hide h1
    have s0:=(HI.out).s.cell 0 rfl
    have s1:=(HI.out).s.cell 1 rfl
    have s2:=(HI.out).s.cell 2 rfl
    have s3:=(HI.out).s.cell 3 rfl
    have ls:=(HI.out).s.lt
    have dd0:=(HI.out).d.cell 0 rfl
    have dd1:=(HI.out).d.cell 1 rfl
    have dd2:=(HI.out).d.cell 2 rfl
    have dd3:=(HI.out).d.cell 3 rfl
    have dd4:=(HI.out).d.cell 4 rfl
    have ldd:=(HI.out).d.lt
    have pw0:=(HI.out).p.cell 0 rfl
    have pw1:=(HI.out).p.cell 1 rfl
    have pw2:=(HI.out).p.cell 2 rfl
    have lpw:=(HI.out).p.lt
    clear h1 hb
    refine (HPo.out _ (by with_reducible repeat (first|exact HI.out.u|exact Up.refl _|apply Up.ext|apply Up.alloc|apply Up.drew|refine Up.setCell ?_ (by simp only;omega) _))).mono ?_
    rintro _ _ ⟨a1,n1,c1,p1,rfl,hbx,rfl⟩
    rw [HPL.out o] at hbx
    have HBX:=hide hbx
    clear hbx
    go_wp2_with fail
    go_at_call 50
    refine (HKo.out _ (by with_reducible repeat (first|exact HI.out.u|exact Up.refl _|apply Up.ext|apply Up.alloc|apply Up.drew|refine Up.setCell ?_ (by simp only;omega) _))).mono ?_
    intro p2
    go_wp2_with fail
    have hn1:=(Boxes.at HBX.out).1
    have hlen1:n1=set.length:=by rw [hn1];exact HG.out.2.2
    have HN1:=hide hn1
    have hn100:n1≤100:=by have:=HN.out.2.1;omega
    clear hn1 hlen1
    refine forgetW (fun V=>PlanS w #[.slice a n c,.int .i64 home,.slice sa sn sc,.slice ca cn cc] #[.int .i64 (d.l.1),.int .i64 (d.l.2),.int .i64 (d.h.1),.int .i64 (d.h.2),.int .i64 (d.g)] #[.slice (some ⟨ob,oo,none⟩) on oc,.int .i64 bn,.map (some (w.heap.size+1+1))] (tabU R offers k 0) V∧Boxes (fun b=>w.heap.size+1+1+1<b) V (.slice a1 n1 c1) (cellsO s d t set o)) ⟨HI.out.up ((Up.refl _).ext _),by rw [← ext_ext];exact boxes_of (((of_boxes HBX.out).up ((Up.refl _).ext _)).mono fun b _ hb=>by have:=HI.out.p.lt;omega)⟩ ?_
    clear HI HBX s0 s1 s2 s3 ls dd0 dd1 dd2 dd3 dd4 ldd pw0 pw1 pw2 lpw lo9 o0 o1 o2 o3 o4 o5 o6 o7 o8 o9 o10
    intro V5 h5
    have H5:=hide h5
    clear h5
    generalize kndV (kndOf s o)=KV at *
    go_loopw [50] (fun s50 wr=>∃ j:Nat,j≤n1∧s50=.int .i64 j∧Hid (PlanS w #[.slice a n c,.int .i64 home,.slice sa sn sc,.slice ca cn cc] #[.int .i64 (d.l.1),.int .i64 (d.l.2),.int .i64 (d.h.1),.int .i64 (d.h.2),.int .i64 (d.g)] #[.slice (some ⟨ob,oo,none⟩) on oc,.int .i64 bn,.map (some (w.heap.size+1+1))] (tabU R offers k j) wr∧Boxes (fun b=>w.heap.size+1+1+1<b) wr (.slice a1 n1 c1) (cellsO s d t set o))) (fun s50 _=>n1 - (intOf s50).toNat)
    case atStart=>exact ⟨0,by omega,rfl,H5⟩
    case round =>
     obtain ⟨j,hj,rfl,HJ⟩:=hrel
     clear H5
     have s0:=(HJ.out.1).s.cell 0 rfl
     have s1:=(HJ.out.1).s.cell 1 rfl
     have s2:=(HJ.out.1).s.cell 2 rfl
     have s3:=(HJ.out.1).s.cell 3 rfl
     have ls:=(HJ.out.1).s.lt
     have dd0:=(HJ.out.1).d.cell 0 rfl
     have dd1:=(HJ.out.1).d.cell 1 rfl
     have dd2:=(HJ.out.1).d.cell 2 rfl
     have dd3:=(HJ.out.1).d.cell 3 rfl
     have dd4:=(HJ.out.1).d.cell 4 rfl
     have ldd:=(HJ.out.1).d.lt
     have pw0:=(HJ.out.1).p.cell 0 rfl
     have pw1:=(HJ.out.1).p.cell 1 rfl
     have pw2:=(HJ.out.1).p.cell 2 rfl
     have lpw:=(HJ.out.1).p.lt
     by_cases hlj:j<n1
     · have hjb:decide ((j:Int)<n1)=true:=by simp;omega
       have hjn:decide (j<n1)=true:=by simp;omega
       obtain ⟨b2,o2',b,rfl,hK2,hb2w,hpb,c0,c1',c2,c3,c4,c5,c6,c7⟩:=(Boxes.at HJ.out.2).2.2 j hlj
       have hbk:=HG.out.2.1 b (List.mem_of_getElem? hpb)
       have HVb:=hide (HVo.out b hbk)
       have HX:=hide (HR.out.2.2.1 k o j b hpb)
       obtain ⟨v,hv⟩:∃ v,viewK (kndOf s o) (cellA b)=v:=⟨_,rfl⟩
       rw [hv] at HVb HX
       clear hpb hbk hv
       obtain ⟨x0,x1,y0,y1,u0,u1,v0,v1⟩:=b
       obtain ⟨vm,vs,vl,vh⟩:=v
       unfold cellA viewA at HVb
       dsimp only at HVb c0 c1' c2 c3 c4 c5 c6 c7
       have hkk:=tabU_keyok (k:=k) (j:=j) HR.out.1 HR.out.2.1 (by have:=HN.out.2.2;omega)
       have hik:I64 (k:Int):=by unfold I64;omega
       have hij:I64 (j:Int):=by unfold I64;omega
       go_wp2_with fail
       obtain ⟨gb,hgb⟩:∃ g,g=wr.heap.size:=⟨_,rfl⟩
       try rw [← hgb]
       refine forgetW (fun V=>PlanS w #[.slice a n c,.int .i64 home,.slice sa sn sc,.slice ca cn cc] #[.int .i64 (d.l.1),.int .i64 (d.l.2),.int .i64 (d.h.1),.int .i64 (d.h.2),.int .i64 (d.g)] #[.slice (some ⟨ob,oo,none⟩) on oc,.int .i64 bn,.map (some (w.heap.size+1+1))] (tabU R offers k j) V∧Boxes (fun b=>w.heap.size+1+1+1<b) V (.slice (some ⟨b2,o2',none⟩) n1 c1) (cellsO s d t set o)∧Box V gb #[.int .i64 (x0),.int .i64 (x1),.int .i64 (y0),.int .i64 (y1),.int .i64 (u0),.int .i64 (u1),.int .i64 (v0),.int .i64 (v1)] 69) ⟨HJ.out.1.up ((Up.refl _).alloc _),boxes_of ((of_boxes HJ.out.2).up ((Up.refl _).alloc _)),by rw [hgb];exact Box.mk rfl⟩ ?_
       clear hgb c0 c1' c2 c3 c4 c5 c6 c7 hb2w hK2 HJ s0 s1 s2 s3 ls dd0 dd1 dd2 dd3 dd4 ldd pw0 pw1 pw2 lpw
       rintro V6 ⟨h6,hl6,hb6⟩
       have HJ:=hide (And.intro h6 hl6)
       have s0:=(HJ.out.1).s.cell 0 rfl
       have s1:=(HJ.out.1).s.cell 1 rfl
       have s2:=(HJ.out.1).s.cell 2 rfl
       have s3:=(HJ.out.1).s.cell 3 rfl
       have ls:=(HJ.out.1).s.lt
       have dd0:=(HJ.out.1).d.cell 0 rfl
       have dd1:=(HJ.out.1).d.cell 1 rfl
       have dd2:=(HJ.out.1).d.cell 2 rfl
       have dd3:=(HJ.out.1).d.cell 3 rfl
       have dd4:=(HJ.out.1).d.cell 4 rfl
       have ldd:=(HJ.out.1).d.lt
       have pw0:=(HJ.out.1).p.cell 0 rfl
       have pw1:=(HJ.out.1).p.cell 1 rfl
       have pw2:=(HJ.out.1).p.cell 2 rfl
       have lpw:=(HJ.out.1).p.lt
       have b0:=hb6.cell 0 rfl
       have b1:=hb6.cell 1 rfl
       have b2:=hb6.cell 2 rfl
       have b3:=hb6.cell 3 rfl
       have b4:=hb6.cell 4 rfl
       have b5:=hb6.cell 5 rfl
       have b6:=hb6.cell 6 rfl
       have b7:=hb6.cell 7 rfl
       have lb9:=hb6.lt
       have hmu:=fun q:Ext=>mapv_update (HJ.out.1.up ((Up.refl V6).ext q)).m hkk.1 hik hij hkk.2 (vm,vs,vl,vh)
       clear h6 hl6 hb6 hkk
       ((first | with_reducible refine wp_region_ext_tail2 1 (by kernel_rfl) (by kernel_rfl) ?_ | refine wp_region_ext_tail 1 (by kernel_rfl) (by kernel_rfl) ?_);simp only [List.length_cons,List.length_nil,Nat.reduceAdd,Nat.reduceSub,List.take_succ_cons,List.take_zero,List.drop_succ_cons,List.drop_zero];(repeat (go_big_quiet_step ((go_at_call 52;with_reducible exact Gives.inRegion (HVb.out _)))));refine wpQuiet_nil ?_;intro _ hw';obtain ⟨_,hw''⟩:=hw';subst hw'')
       go_wp2_with fail
       go_roundw
       case rel=>exact ⟨j+1,by omega,by go_num,hide ⟨by rw [tabU_next HG.out.1 HX.out];exact (HJ.out.1.up ((Up.refl _).ext _)).put k j (vm,vs,vl,vh),boxes_of ((of_boxes HJ.out.2).keeps (Keeps.put ((Up.ext (Up.refl V6) _).keeps _) (by omega) _))⟩⟩
       case measure=>simp [intOf];omega
     · have hjb:decide ((j:Int)<n1)=false:=by simp;omega
       have hjn:decide (j<n1)=false:=by simp;omega
       have HE:=hide (tabU_row (R:=R) (j:=j) HG.out.1 (by have h1:=HN1.out;have h2:=HR.out.2.2.2 k o;omega))
       go_wp2_with fail
       go_roundw
       case rel=>exact ⟨k+1,by omega,by go_num,hide (by rw [← HE.out];exact HJ.out.1)⟩
       case measure=>simp [intOf];omega
  · have hkb:decide ((k:Int)<on)=false:=by simp;omega
    have hkn:decide (k<on)=false:=by simp;omega
    have HE:=hide (tabU_all (R:=R) (offers:=offers) (k:=k) (by have:=HN.out.1;omega))
    go_wp2
    refine forgetW (fun V=>PlanS w #[.slice a n c,.int .i64 home,.slice sa sn sc,.slice ca cn cc] #[.int .i64 (d.l.1),.int .i64 (d.l.2),.int .i64 (d.h.1),.int .i64 (d.h.2),.int .i64 (d.g)] #[.slice oa on oc,.int .i64 bn,.map (some (w.heap.size+1+1))] (tabU R offers k 0) V) HI.out ?_
    rintro V hV
    obtain ⟨p,hp⟩:=hV.u
    exact bodyPost_ret (v:=.pointer (some ⟨w.heap.size+1+1+1,0,none⟩)) (by simp [results,Tryz.results47,go_sem]) rfl ⟨p,rfl,hp,hV.p,by rw [← HE.out];exact hV.m⟩
end Go.Proofs.YteafglginnonnaaGreat
/- Package watch: whether two areas can be mixed up, whether an offer tells them apart. Conditions: what lies in memory. -/
namespace Go.Proofs.YteafglginnonnaaGreat
open Go.RowKit Go.Shelf
set_option maxRecDepth 100000 in
set_option maxHeartbeats 4000000 in
theorem wmixed_any (x y:Bool×Bool×Int×Int) (w:World):Gives Tryz.prog 53 #[.agg (viewA x),.agg (viewA y)] w (.bool (mixedB x y)):=by
 obtain ⟨x1,x2,x3,x4⟩:=x
 obtain ⟨y1,y2,y3,y4⟩:=y
 have HM:=hide (fun W=>meet_any x3 x4 y3 y4 W)
 unfold mixedB viewA
 dsimp only
 generalize meetS x3 x4 y3 y4=M at *
 obtain ⟨M1,M2,M3⟩:=M
 dsimp only at *
 (unfold Gives;go_enter Tryz.func53,Tryz.ntmps53)
 go_wp2_with fail
 go_at_call 97
 refine (HM.out _).mono ?_
 intro p1
 go_wp2
 all_goals (go_ret;refine ⟨ret_bool ?_,(by repeat (first|with_reducible (first|exact Up.refl _|apply Up.plus)|apply Up.ext|apply Up.alloc|apply Up.drew|refine Up.setCell ?_ (by simp;try omega) _))⟩)
 all_goals (simp_all)
end Go.Proofs.YteafglginnonnaaGreat
/- Reference bolideref06: numbers, squares, quotients, roots, stations and biases. Conditions: bounds, what lies in memory. -/
namespace Go.Proofs.YteafglginnonnaaGreat
open Go.RowKit Go.Shelf
end Go.Proofs.YteafglginnonnaaGreat
/- Reference bolideref06: stations, biases. Conditions: what lies in memory. -/
namespace Go.Proofs.YteafglginnonnaaGreat
open Go.RowKit Go.Shelf
end Go.Proofs.YteafglginnonnaaGreat
/- Reference bolideref06: the way to a place, slopes, what is in a field. Conditions: a valid offer, bounds. -/
namespace Go.Proofs.YteafglginnonnaaGreat
open Go.RowKit Go.Shelf
end Go.Proofs.YteafglginnonnaaGreat
/- Reference bolideref06: corners, the nearest place of an area; which areas are valid. Conditions: a valid offer, bounds. -/
namespace Go.Proofs.YteafglginnonnaaGreat
open Go.RowKit Go.Shelf
end Go.Proofs.YteafglginnonnaaGreat
/- Reference bolideref06: whether an area may be seen. Conditions: a valid offer, bounds. -/
namespace Go.Proofs.YteafglginnonnaaGreat
open Go.RowKit Go.Shelf
end Go.Proofs.YteafglginnonnaaGreat
/- Plain Lean: the values of an area as the reference builds them, corner by corner. No program. -/
namespace Go.Proofs.YteafglginnonnaaGreat
open Go.RowKit
theorem clamp_max (a b:Int):clampS (max a b)=max (clampS a) (clampS b):=by
 rcases Int.le_total a b with h | h
 · have:=clamp_mono h
   rw [Int.max_eq_right h,Int.max_eq_right this]
 · have:=clamp_mono h
   rw [Int.max_eq_left h,Int.max_eq_left this]
theorem more_max (a b h e:Int):max a b - h+e=max (a - h+e) (b - h+e):=by omega
theorem hi4 (a b c d h e:Int):max (max (max (max (-1099511627776) (clampS (a - h+e))) (clampS (b - h+e))) (clampS (c - h+e))) (clampS (d - h+e))=clampS (max (max (max (max a a) b) c) d - h+e):=by
 have h1:=(clamp_bd (a - h+e)).1
 simp only [more_max,clamp_max]
 rw [Int.max_eq_right h1,Int.max_self]
end Go.Proofs.YteafglginnonnaaGreat
/- Reference bolideref06: which offers are valid, whether a place is in the field. Conditions: what lies in memory. -/
namespace Go.Proofs.YteafglginnonnaaGreat
open Go.RowKit Go.Shelf
end Go.Proofs.YteafglginnonnaaGreat
/- Reference bolideref06: the error of an offer in any sky; whether a place is in the field. Conditions: what lies in memory. -/
namespace Go.Proofs.YteafglginnonnaaGreat
open Go.RowKit Go.Shelf
end Go.Proofs.YteafglginnonnaaGreat
/- What the three laws of layer 6 without a reference say, in plain Lean. No program. -/
namespace Go.Proofs.YteafglginnonnaaGreat
open Go.RowKit
end Go.Proofs.YteafglginnonnaaGreat
/- Reference bolideref06: what is read of a place. Conditions: a valid offer, bounds. -/
namespace Go.Proofs.YteafglginnonnaaGreat
open Go.RowKit Go.Shelf
end Go.Proofs.YteafglginnonnaaGreat
/- Reference bolideref06: the values of an area. Conditions: a valid offer, bounds. -/
namespace Go.Proofs.YteafglginnonnaaGreat
open Go.RowKit Go.Shelf
end Go.Proofs.YteafglginnonnaaGreat
/- Reference bolideref06: the view of an area. Conditions: a valid offer, bounds. -/
namespace Go.Proofs.YteafglginnonnaaGreat
open Go.RowKit Go.Shelf
end Go.Proofs.YteafglginnonnaaGreat
/- Package watch: whether an offer tells two areas apart. Conditions: what lies in memory. -/
namespace Go.Proofs.YteafglginnonnaaGreat
open Go.RowKit Go.Shelf
end Go.Proofs.YteafglginnonnaaGreat
/- Reference bolideref06: whether two areas can be mixed up, by their views. No conditions. -/
namespace Go.Proofs.YteafglginnonnaaGreat
open Go.RowKit Go.Shelf
end Go.Proofs.YteafglginnonnaaGreat
/- Reference bolideref06: View, Apart. Conditions: what lies in memory. -/
namespace Go.Proofs.YteafglginnonnaaGreat
open Go.RowKit Go.Shelf
end Go.Proofs.YteafglginnonnaaGreat
