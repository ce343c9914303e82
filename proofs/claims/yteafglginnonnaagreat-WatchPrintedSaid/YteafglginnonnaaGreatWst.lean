/- Several texts in one. -/
import Derived.Test.YteafglginnonnaaGreatVO
import Derived.Test.YteafglginnonnaaGreatPush
import Derived.Test.YteafglginnonnaaGreatOwn
import Derived.Test.YteafglginnonnaaGreatW6b
import Derived.Test.YteafglginnonnaaGreatW6m
import Derived.Test.YteafglginnonnaaGreatWatT
/- Package watch: lists of numbers; what a plan tells apart. Conditions: what lies in memory. -/
set_option linter.unusedVariables false
set_option linter.unusedSimpArgs false
namespace Go.Proofs.YteafglginnonnaaGreat
set_option maxHeartbeats 40000000
set_option maxRecDepth 100000
open Go.RowKit Go.Shelf
def TInt:Rw Int:=⟨1,fun x=>[.int .i64 x],by decide,fun _=>rfl,fun _ u hu=>by simp only [List.mem_cons,List.not_mem_nil,or_false] at hu;rcases hu with rfl;rfl⟩
theorem Tryz.infoint:(Tryz.prog.info? 3).map (fun i=>(i.zero,i.size,i.bytes))=some (some (.int .i64 0),1,8):=by kernel_rfl
theorem elem_int:ElemOk Tryz.prog TInt 22 3 8:=by
 obtain ⟨i,h1,h2,h3,h4⟩:=info_parts Tryz.infoint
 exact ⟨Tryz.underlying22,i,_,h1,h2,h3,h4,rfl⟩
theorem Ints.at {K:Nat→Prop} {w:World} {a:Option Addr} {n c:Nat} {l:List Int} (h:Lst TInt K w (.slice a n c) l):n=l.length∧n≤9223372036854775807 ∧
 ∀ i,i<n→∃ b o p,a=some ⟨b,o,none⟩∧K b∧b<w.heap.size∧l[i]?=some p∧w.cell? ⟨b,o+i,none⟩=some (.int .i64 p):=by
 obtain ⟨a',c',h1,h2,h3⟩:=h
 simp at h1
 obtain ⟨rfl,rfl,rfl⟩:=h1
 refine ⟨rfl,h2,fun i hi=>?_⟩
 obtain ⟨b,o,rfl,hK,hb,hc⟩:=h3 (by intro e;subst e;simp at hi)
 obtain ⟨vs,rfl,_,hx⟩:=hc i l[i] (List.getElem?_eq_getElem hi)
 exact ⟨b,o,l[i],rfl,hK,hb,List.getElem?_eq_getElem hi,by have:=hx 0 _ rfl;rw [show TInt.k=1 from rfl,Nat.mul_one,Nat.add_zero] at this;exact this⟩
theorem ixint_any (g:Nat) (cap:Array Value) (eg:∀ args w,(callFunc g args).run Tryz.prog w=.ok (.enter g args) w) (F:Int→Bool) {K:Nat→Prop} {a:Option Addr} {n c:Nat} {l:List Int} {w:World} (hl:Lst TInt K w (.slice a n c) l)
 (hF:∀ p W,p∈l→Up w W→Gives Tryz.prog g (#[.int .i64 p]++cap) W (.bool (F p))) :
 Gives Tryz.prog 172 #[.slice a n c,.func (.func g) #[] cap] w (.int .i64 (firstI F l)):=by
 have hn:=(Ints.at hl).1
 have hm:=(Ints.at hl).2.1
 have HF:=hide (And.intro hF hl)
 have HN:=hide hn
 clear hF hl hn
 (unfold Gives;go_enter Tryz.func172,Tryz.ntmps172)
 go_wp2
 go_loopw [8] (fun s8 wr=>∃ k:Nat,k≤n∧s8=.int .i64 k∧Up w wr∧Hid (noneYet F l k)) (fun s8 _=>n - (intOf s8).toNat)
 case atStart=>exact ⟨0,by omega,rfl,Up.refl _,hide (fun i p hi _=>by omega)⟩
 case round =>
  obtain ⟨k,hk,rfl,hu,hb⟩:=hrel
  by_cases hlt:k<n
  · obtain ⟨b,o,p,rfl,hKb,hbw,hp,hc0⟩:=(Ints.at (HF.out.2.keeps (hu.keeps K))).2.2 k hlt
    have hkb:decide ((k:Int)<n)=true:=by simp;omega
    have HC:=hide (HF.out.1 p _ (List.mem_of_getElem? hp) hu)
    have HP:=hide hp
    have HU:=hide hu
    clear hp hu hKb
    rcases hF:F p with _ | _
    · have HS:=hide hF
      rw [hF] at HC
      clear hF
      go_wp2
      refine HC.out.mono ?_
      intro px
      go_wp2
      refine ⟨⟨k+1,by omega,by go_num,HU.out.ext _,hide (hb.out.succ HP.out HS.out)⟩,by simp [intOf];omega⟩
    · have HS:=hide hF
      rw [hF] at HC
      clear hF
      go_wp2
      refine HC.out.mono ?_
      intro px
      go_wp2
      go_ret
      exact ⟨by rw [firstI_found hb.out HP.out HS.out];rfl,HU.out.ext _⟩
  · have hkb:decide ((k:Int)<n)=false:=by simp;omega
    obtain rfl:k=n:=by omega
    go_wp2
    go_ret
    exact ⟨by rw [firstI_none (by rw [← HN.out];exact hb.out)];rfl,hu⟩
theorem anyint_any (g:Nat) (cap:Array Value) (eg:∀ args w,(callFunc g args).run Tryz.prog w=.ok (.enter g args) w) (F:Int→Bool) {K:Nat→Prop} {a:Option Addr} {n c:Nat} {l:List Int} {w:World} (hl:Lst TInt K w (.slice a n c) l)
 (hF:∀ p W,p∈l→Up w W→Gives Tryz.prog g (#[.int .i64 p]++cap) W (.bool (F p))) :
 Gives Tryz.prog 134 #[.slice a n c,.func (.func g) #[] cap] w (.bool (l.any F)):=by
 have HX:=hide (ixint_any g cap eg F hl hF)
 clear hl hF
 (unfold Gives;go_enter Tryz.func134,Tryz.ntmps134)
 go_wp2_with (go_at_call 172;refine (HX.out).mono ?_;intro _)
 go_ret
 exact ⟨ret_bool (firstI_ge F l),Up.go⟩
/-! ### a plan in memory: the views of on offers and cn cells -/
abbrev VwD:=Bool×Bool×Int×Int
structure PlanT (W:World) (PB MB:Nat) (oa:Option Addr) (on oc cn:Nat) (T:Int→Int→VwD):Prop where
 p:Box W PB #[.slice oa on oc,.int .i64 cn,.map (some MB)] 143
 m:∃ l,MapV W MB l∧KeyOk l∧∀ i k:Int,0≤i→i<on→0≤k→k<cn→(i,k,T i k)∈l∧∀ x∈l,x.1=i→x.2.1=k→x.2.2=T i k
 n:on≤1000∧cn≤1000
theorem PlanT.up {W V:World} {PB MB:Nat} {oa:Option Addr} {on oc cn:Nat} {T:Int→Int→VwD} (h:PlanT W PB MB oa on oc cn T) (hu:Up W V):PlanT V PB MB oa on oc cn T :=
 ⟨h.p.up hu,let ⟨l,h1,h2⟩:=h.m;⟨l,h1.up hu,h2⟩,h.n⟩
theorem PlanT.look {W:World} {PB MB:Nat} {oa:Option Addr} {on oc cn:Nat} {T:Int→Int→VwD} (h:PlanT W PB MB oa on oc cn T) {i k:Int} (i0:0≤i) (i1:i<on) (k0:0≤k) (k1:k<cn) :
 (Instr.lookup 141 (.map (some MB)) (.agg #[.int .i64 (i),.int .i64 (k)]) false).run Tryz.prog W=.ok (.agg (vwA (T i k))) W:=by
 obtain ⟨l,h1,h2,h3⟩:=h.m
 obtain ⟨h4,h5⟩:=h3 i k i0 i1 k0 k1
 have:=h.n
 exact mapv_lookup h1 h2 (by unfold I64;omega) (by unfold I64;omega) h4 h5
def apartT (T:Int→Int→VwD) (i k o:Int):Bool:=!mixedB (T o i) (T o k)
theorem wconf1_any {w W:World} {PB MB bp bi bk:Nat} {oa:Option Addr} {on oc cn:Nat} {T:Int→Int→VwD} (hP:PlanT W PB MB oa on oc cn T) {i k o:Int} (hp:Box W bp #[.pointer (some ⟨PB,0,none⟩)] 105) (hbi:Box W bi #[.int .i64 i] 3) (hbk:Box W bk #[.int .i64 k] 3)
 (i0:0≤i) (i1:i<cn) (k0:0≤k) (k1:k<cn) (o0:0≤o) (o1:o<on) :
 Gives Tryz.prog 133 (#[.int .i64 o]++#[.pointer (some ⟨bp,0,none⟩),.pointer (some ⟨bi,0,none⟩),.pointer (some ⟨bk,0,none⟩)]) W (.bool (apartT T i k o)):=by
 have HL1:=fun q:Ext=>(hP.up ((Up.refl W).ext q)).look o0 o1 i0 i1
 have HL2:=fun q:Ext=>(hP.up ((Up.refl W).ext q)).look o0 o1 k0 k1
 have HM:=hide (fun U=>wmixed_any (T o i) (T o k) U)
 unfold apartT
 generalize mixedB (T o i) (T o k)=M at *
 generalize T o i=A at *
 generalize T o k=B at *
 obtain ⟨A1,A2,A3,A4⟩:=A
 obtain ⟨B1,B2,B3,B4⟩:=B
 unfold viewA at HM
 unfold vwA at HL1 HL2
 dsimp only at *
 have p0:=hp.cell 0 rfl
 have lp:=hp.lt
 have i00:=hbi.cell 0 rfl
 have li:=hbi.lt
 have k00:=hbk.cell 0 rfl
 have lk:=hbk.lt
 obtain ⟨q0,q1,q2⟩:=hP.p.c3
 have lq:=hP.p.lt
 clear hP hp hbi hbk i0 i1 k0 k1 o0 o1
 (unfold Gives;go_enter Tryz.func133,Tryz.ntmps133)
 go_wp2_with fail
 ((first | with_reducible refine wp_region_ext2 (by kernel_rfl) (by kernel_rfl) ?_ | refine wp_region_ext (by kernel_rfl) (by kernel_rfl) ?_);(repeat (go_big_quiet_step ((go_at_call 53;with_reducible exact Gives.inRegion (HM.out _)))));refine wpQuiet_nil ?_;intro _ hw';obtain ⟨_,hw''⟩:=hw';subst hw'')
 go_wp2
 go_ret
 exact ⟨rfl,Up.go⟩
section
variable {P:Program} {ops:Array Oper} {rest:List Oper} {o:Oper} {a:Act} {Q:Exit→Act→World→Prop}
theorem wpList_pushG {α:Type} {T:Rw α} {t e:TypeId} {bytes:Nat} (hE:ElemOk P T t e bytes) (hgd:o.guard=none) (s x:Operand) (ho:o.op=.call { callee:=.builtin .append,args:=#[s,x],argTypes:=#[t,t] })
 {w0 W:World} (hu:Up w0 W) {base:Nat} (hb0:w0.heap.size≤base) (hbW:base≤W.heap.size) {v:Value} {l:List α} (hs:a.eval s=v) (hown:Own T e base W v l) (hn:l.length≤100000) (hby:bytes≤1000) (p:α) {B:Nat} (hx:a.eval x=.slice (some ⟨B,0,none⟩) 1 1) (hB:Box W B (T.f p).toArray e)
 (h:∀ g cap W',Up w0 W'→Own T e base W' (.slice (some ⟨g,0,none⟩) (l.length+1) cap) (l++[p])→W.grownBy W' v.ownBlock→wpList P ops Q rest (a.put o.dst (.slice (some ⟨g,0,none⟩) (l.length+1) cap)) W'):wpList P ops Q (o::rest) a W:=by
 obtain ⟨i,z,h1,h2,h3,h4,h5⟩:=hE.info
 refine wpList_append_lies _ hgd s x t ho base e i z T.k bytes hE.under h1 h2 h3 h4 h5 T.kp v l.length (T.flat l) hs hown ⟨B,0,none⟩ 1 1 (T.f p) hx (by rw [T.fk,Nat.one_mul]) ?_ (T.one p) (by decide) (by unfold maxLen;omega) ?_ hbW _ rfl ?_
 · intro j u hu
   rw [add_plain0,Nat.zero_add]
   exact hB.cell j (by rw [List.getElem?_toArray];exact hu)
 · have:(l.length+1)*bytes≤100001*1000:=Nat.mul_le_mul (by omega) hby
   omega
 · intro g cap w' hown' hgrow hat hlt
   refine h g cap w' (.of_below (hu.below.grown hgrow hu.below.size (fun k e=>by have:=hown.lt k e;omega))) ?_ hgrow
   unfold Own
   rw [List.length_append,List.length_singleton,T.flat_snoc]
   exact hown'
end
theorem PlanT.lt {W:World} {PB MB:Nat} {oa:Option Addr} {on oc cn:Nat} {T:Int→Int→VwD} (h:PlanT W PB MB oa on oc cn T):PB<W.heap.size∧MB<W.heap.size :=
 ⟨h.p.lt,let ⟨_,h1,_⟩:=h.m;(Array.getElem?_eq_some_iff.1 h1).1⟩
theorem PlanT.grown {W V:World} {PB MB:Nat} {oa:Option Addr} {on oc cn:Nat} {T:Int→Int→VwD} (h:PlanT W PB MB oa on oc cn T) {row:Option Nat} (hg:W.grownBy V row) (h1:row≠some PB) (h2:row≠some MB):PlanT V PB MB oa on oc cn T :=
 ⟨h.p.grown hg h1,let ⟨l,h3,h4⟩:=h.m;⟨l,(hg.block MB h.lt.2 (Ne.symm h2)).trans h3,h4⟩,h.n⟩
theorem Tryz.infooff:(Tryz.prog.info? 50).map (fun i=>(i.zero,i.size,i.bytes))=some (some (.agg #[.int .i64 0,.int .i64 0,.int .i64 0,.int .i64 0,.int .i64 0,.int .i64 0,.int .i64 0,.int .i64 0,.int .i64 0,.int .i64 0,.bool false]),11,88):=by kernel_rfl
theorem elem_off:ElemOk Tryz.prog TOff 35 50 88:=by
 obtain ⟨i,h1,h2,h3,h4⟩:=info_parts Tryz.infooff
 exact ⟨Tryz.underlying35,i,_,h1,h2,h3,h4,rfl⟩
theorem SkyL.mono {K K':Nat→Prop} {w:World} {a:Option Addr} {n c:Nat} {sa:Option Addr} {sn sc:Nat} {ca:Option Addr} {cn cc:Nat} {s:SkyD} (h:SkyL K w a n c sa sn sc ca cn cc s) (hK:∀ b,b<w.heap.size→K b→K' b):SkyL K' w a n c sa sn sc ca cn cc s :=
 ⟨h.b.mono hK,h.h,Lies.mono h.st hK fun _ _ h=>h,Lies.mono h.ca hK fun _ _ h=>h⟩
structure WfZ (W:World) (B:Nat) (n:Int) (z1 z2 z3:Nat) (U:World):Prop where
 r:RingAt W B n U
 a:Box U z1 #[.slice none 0 0,.int .i64 0,.slice none 0 0,.slice none 0 0] 29
 b:Box U z2 #[.int .i64 (0),.int .i64 (0),.int .i64 (0),.int .i64 (0),.int .i64 (0)] 33
 c:Box U z3 #[.int .i64 (0),.int .i64 (0),.int .i64 (0),.int .i64 (0)] 37
theorem WfZ.grown {W:World} {B:Nat} {n m:Int} {z1 z2 z3:Nat} {U V:World} (h:WfZ W B n z1 z2 z3 U) (hr:RingAt W B m V) {row:Option Nat} (hg:U.grownBy V row) (h1:row≠some z1) (h2:row≠some z2) (h3:row≠some z3):WfZ W B m z1 z2 z3 V :=
 ⟨hr,h.a.grown hg h1,h.b.grown hg h2,h.c.grown hg h3⟩
theorem WfZ.up {W:World} {B:Nat} {n:Int} {z1 z2 z3:Nat} {U V:World} (h:WfZ W B n z1 z2 z3 U) (hu:Up U V):WfZ W B n z1 z2 z3 V:=⟨h.r.ofUp hu,h.a.up hu,h.b.up hu,h.c.up hu⟩
structure WfM (K:Nat→Prop) (a:Option Addr) (n c:Nat) (sa:Option Addr) (sn sc:Nat) (ca:Option Addr) (cn cc:Nat) (s:SkyD) (home:Int) (q1 q2 q4:Nat) (d:DriftD) (sx sy su sv:Int) (U:World):Prop where
 l:SkyL K U a n c sa sn sc ca cn cc s
 s:Box U q1 #[.slice a n c,.int .i64 home,.slice sa sn sc,.slice ca cn cc] 29
 d:Box U q2 #[.int .i64 (d.l.1),.int .i64 (d.l.2),.int .i64 (d.h.1),.int .i64 (d.h.2),.int .i64 (d.g)] 33
 x:Box U q4 #[.int .i64 (sx),.int .i64 (sy),.int .i64 (su),.int .i64 (sv)] 37
theorem WfM.grown {K:Nat→Prop} {a:Option Addr} {n c:Nat} {sa:Option Addr} {sn sc:Nat} {ca:Option Addr} {cn cc:Nat} {s:SkyD} {home:Int} {q1 q2 q4:Nat} {d:DriftD} {sx sy su sv:Int} {U V:World} (h:WfM K a n c sa sn sc ca cn cc s home q1 q2 q4 d sx sy su sv U) {row:Option Nat} (hg:U.grownBy V row) (hK:∀ b,K b→row≠some b) (h1:row≠some q1) (h2:row≠some q2) (h3:row≠some q4):WfM K a n c sa sn sc ca cn cc s home q1 q2 q4 d sx sy su sv V :=
 ⟨h.l.keeps ⟨hg.size,fun b hb hl=>hg.block b hl (fun e=>hK b hb e.symm)⟩,h.s.grown hg h1,h.d.grown hg h2,h.x.grown hg h3⟩
theorem WfM.up {K:Nat→Prop} {a:Option Addr} {n c:Nat} {sa:Option Addr} {sn sc:Nat} {ca:Option Addr} {cn cc:Nat} {s:SkyD} {home:Int} {q1 q2 q4:Nat} {d:DriftD} {sx sy su sv:Int} {U V:World} (h:WfM K a n c sa sn sc ca cn cc s home q1 q2 q4 d sx sy su sv U) (hu:Up U V):WfM K a n c sa sn sc ca cn cc s home q1 q2 q4 d sx sy su sv V:=⟨h.l.up hu,h.s.up hu,h.d.up hu,h.x.up hu⟩
def WatchMade (W:World) (B:Nat) (t:Int) (cells offs:Nat) (e:Ending) (W':World):Prop:=∃ (a:Option Addr) (n c:Nat) (sa:Option Addr) (sn sc:Nat) (ca:Option Addr) (cn cc:Nat) (s:SkyD) (d:DriftD) (ba:Option Addr) (bn bc:Nat) (set:List BoxD) (oa:Option Addr) (on oc:Nat) (offers:List OffD) (sx sy su sv:Int),
 e=.returned (.tuple #[.agg #[.slice a n c,.int .i64 s.home,.slice sa sn sc,.slice ca cn cc],.agg #[.int .i64 (d.l.1),.int .i64 (d.l.2),.int .i64 (d.h.1),.int .i64 (d.h.2),.int .i64 (d.g)],.slice ba bn bc,.slice oa on oc,.agg #[.int .i64 (sx),.int .i64 (sy),.int .i64 (su),.int .i64 (sv)]])∧RingAt W B (t+200+20*offs) W' ∧
 SkyL (fun b=>W.heap.size≤b) W' a n c sa sn sc ca cn cc s∧SmallSky s∧Boxes (fun b=>W.heap.size≤b) W' (.slice ba bn bc) set∧Lst TOff (fun b=>W.heap.size≤b) W' (.slice oa on oc) offers ∧
 (1≤set.length∧set.length≤cells)∧(∀ b∈set,BOk b)∧offers.length≤offs∧(∀ o∈offers,offE s o=0∧0≤o.tick∧o.tick≤3)∧((0≤d.l.1∧d.l.1≤d.l.2∧d.l.2≤4)∧(-3≤d.h.1∧d.h.1≤d.h.2∧d.h.2≤3)∧0≤d.g∧d.g≤2) ∧
 ((-2800≤sx∧sx≤3200)∧(-2800≤sy∧sy≤3200)∧(-60≤su∧su≤60) ∧ -60≤sv∧sv≤60)
theorem wf_end {W:World} {B:Nat} {n:Int} {z1 z2 z3:Nat} {V:World} (hz:WfZ W B n z1 z2 z3 V) {K:Nat→Prop} {a:Option Addr} {nn c:Nat} {sa:Option Addr} {sn sc:Nat} {ca:Option Addr} {cn cc:Nat} {s:SkyD} (hL:SkyL K V a nn c sa sn sc ca cn cc s) {vb vo:Value} {set:List BoxD} {offers:List OffD} (hb:Boxes K V vb set) {K2:Nat→Prop} (ho:Lst TOff K2 V vo offers)
 (n1:¬ K z1) (n2:¬ K z2) (n3:¬ K z3) (o1:¬ K2 z1) (o2:¬ K2 z2) (o3:¬ K2 z3) (w1:W.heap.size≤z1) (w2:W.heap.size≤z2) (w3:W.heap.size≤z3) (N12:z1≠z2) (N13:z1≠z3) (N23:z2≠z3) (v0 v1 v2 v3 d0 d1 d2 d3 d4 x0 x1 x2 x3:Value) :
 RingAt W B n (((((((((((((V.setCell ⟨z1,0,none⟩ v0).setCell ⟨z1,1,none⟩ v1).setCell ⟨z1,2,none⟩ v2).setCell ⟨z1,3,none⟩ v3).setCell ⟨z2,0,none⟩ d0).setCell ⟨z2,1,none⟩ d1).setCell ⟨z2,2,none⟩ d2).setCell ⟨z2,3,none⟩ d3).setCell ⟨z2,4,none⟩ d4).setCell ⟨z3,0,none⟩ x0).setCell ⟨z3,1,none⟩ x1).setCell ⟨z3,2,none⟩ x2).setCell ⟨z3,3,none⟩ x3)∧SkyL K (((((((((((((V.setCell ⟨z1,0,none⟩ v0).setCell ⟨z1,1,none⟩ v1).setCell ⟨z1,2,none⟩ v2).setCell ⟨z1,3,none⟩ v3).setCell ⟨z2,0,none⟩ d0).setCell ⟨z2,1,none⟩ d1).setCell ⟨z2,2,none⟩ d2).setCell ⟨z2,3,none⟩ d3).setCell ⟨z2,4,none⟩ d4).setCell ⟨z3,0,none⟩ x0).setCell ⟨z3,1,none⟩ x1).setCell ⟨z3,2,none⟩ x2).setCell ⟨z3,3,none⟩ x3) a nn c sa sn sc ca cn cc s∧Boxes K (((((((((((((V.setCell ⟨z1,0,none⟩ v0).setCell ⟨z1,1,none⟩ v1).setCell ⟨z1,2,none⟩ v2).setCell ⟨z1,3,none⟩ v3).setCell ⟨z2,0,none⟩ d0).setCell ⟨z2,1,none⟩ d1).setCell ⟨z2,2,none⟩ d2).setCell ⟨z2,3,none⟩ d3).setCell ⟨z2,4,none⟩ d4).setCell ⟨z3,0,none⟩ x0).setCell ⟨z3,1,none⟩ x1).setCell ⟨z3,2,none⟩ x2).setCell ⟨z3,3,none⟩ x3) vb set∧Lst TOff K2 (((((((((((((V.setCell ⟨z1,0,none⟩ v0).setCell ⟨z1,1,none⟩ v1).setCell ⟨z1,2,none⟩ v2).setCell ⟨z1,3,none⟩ v3).setCell ⟨z2,0,none⟩ d0).setCell ⟨z2,1,none⟩ d1).setCell ⟨z2,2,none⟩ d2).setCell ⟨z2,3,none⟩ d3).setCell ⟨z2,4,none⟩ d4).setCell ⟨z3,0,none⟩ x0).setCell ⟨z3,1,none⟩ x1).setCell ⟨z3,2,none⟩ x2).setCell ⟨z3,3,none⟩ x3) vo offers∧Box (((((((((((((V.setCell ⟨z1,0,none⟩ v0).setCell ⟨z1,1,none⟩ v1).setCell ⟨z1,2,none⟩ v2).setCell ⟨z1,3,none⟩ v3).setCell ⟨z2,0,none⟩ d0).setCell ⟨z2,1,none⟩ d1).setCell ⟨z2,2,none⟩ d2).setCell ⟨z2,3,none⟩ d3).setCell ⟨z2,4,none⟩ d4).setCell ⟨z3,0,none⟩ x0).setCell ⟨z3,1,none⟩ x1).setCell ⟨z3,2,none⟩ x2).setCell ⟨z3,3,none⟩ x3) z1 #[v0,v1,v2,v3] 29∧Box (((((((((((((V.setCell ⟨z1,0,none⟩ v0).setCell ⟨z1,1,none⟩ v1).setCell ⟨z1,2,none⟩ v2).setCell ⟨z1,3,none⟩ v3).setCell ⟨z2,0,none⟩ d0).setCell ⟨z2,1,none⟩ d1).setCell ⟨z2,2,none⟩ d2).setCell ⟨z2,3,none⟩ d3).setCell ⟨z2,4,none⟩ d4).setCell ⟨z3,0,none⟩ x0).setCell ⟨z3,1,none⟩ x1).setCell ⟨z3,2,none⟩ x2).setCell ⟨z3,3,none⟩ x3) z2 #[d0,d1,d2,d3,d4] 33∧Box (((((((((((((V.setCell ⟨z1,0,none⟩ v0).setCell ⟨z1,1,none⟩ v1).setCell ⟨z1,2,none⟩ v2).setCell ⟨z1,3,none⟩ v3).setCell ⟨z2,0,none⟩ d0).setCell ⟨z2,1,none⟩ d1).setCell ⟨z2,2,none⟩ d2).setCell ⟨z2,3,none⟩ d3).setCell ⟨z2,4,none⟩ d4).setCell ⟨z3,0,none⟩ x0).setCell ⟨z3,1,none⟩ x1).setCell ⟨z3,2,none⟩ x2).setCell ⟨z3,3,none⟩ x3) z3 #[x0,x1,x2,x3] 37:=by
 have hk:Keeps K V (((((((((((((V.setCell ⟨z1,0,none⟩ v0).setCell ⟨z1,1,none⟩ v1).setCell ⟨z1,2,none⟩ v2).setCell ⟨z1,3,none⟩ v3).setCell ⟨z2,0,none⟩ d0).setCell ⟨z2,1,none⟩ d1).setCell ⟨z2,2,none⟩ d2).setCell ⟨z2,3,none⟩ d3).setCell ⟨z2,4,none⟩ d4).setCell ⟨z3,0,none⟩ x0).setCell ⟨z3,1,none⟩ x1).setCell ⟨z3,2,none⟩ x2).setCell ⟨z3,3,none⟩ x3):=((((((((((((((Keeps.refl K V).set n1 0 v0).set n1 1 v1).set n1 2 v2).set n1 3 v3).set n2 0 d0).set n2 1 d1).set n2 2 d2).set n2 3 d3).set n2 4 d4).set n3 0 x0).set n3 1 x1).set n3 2 x2).set n3 3 x3)
 have hk2:Keeps K2 V (((((((((((((V.setCell ⟨z1,0,none⟩ v0).setCell ⟨z1,1,none⟩ v1).setCell ⟨z1,2,none⟩ v2).setCell ⟨z1,3,none⟩ v3).setCell ⟨z2,0,none⟩ d0).setCell ⟨z2,1,none⟩ d1).setCell ⟨z2,2,none⟩ d2).setCell ⟨z2,3,none⟩ d3).setCell ⟨z2,4,none⟩ d4).setCell ⟨z3,0,none⟩ x0).setCell ⟨z3,1,none⟩ x1).setCell ⟨z3,2,none⟩ x2).setCell ⟨z3,3,none⟩ x3):=((((((((((((((Keeps.refl K2 V).set o1 0 v0).set o1 1 v1).set o1 2 v2).set o1 3 v3).set o2 0 d0).set o2 1 d1).set o2 2 d2).set o2 3 d3).set o2 4 d4).set o3 0 x0).set o3 1 x1).set o3 2 x2).set o3 3 x3)
 refine ⟨(((((((((((((hz.r.set w1 0 v0).set w1 1 v1).set w1 2 v2).set w1 3 v3).set w2 0 d0).set w2 1 d1).set w2 2 d2).set w2 3 d3).set w2 4 d4).set w3 0 x0).set w3 1 x1).set w3 2 x2).set w3 3 x3),hL.keeps hk,hb.keeps hk,ho.keeps hk2,?_,?_,?_⟩
 · simpa using (((((((((((((hz.a.set 0 v0).set 1 v1).set 2 v2).set 3 v3).other N12 0 d0).other N12 1 d1).other N12 2 d2).other N12 3 d3).other N12 4 d4).other N13 0 x0).other N13 1 x1).other N13 2 x2).other N13 3 x3)
 · simpa using (((((((((((((hz.b.other (Ne.symm N12) 0 v0).other (Ne.symm N12) 1 v1).other (Ne.symm N12) 2 v2).other (Ne.symm N12) 3 v3).set 0 d0).set 1 d1).set 2 d2).set 3 d3).set 4 d4).other N23 0 x0).other N23 1 x1).other N23 2 x2).other N23 3 x3)
 · simpa using (((((((((((((hz.c.other (Ne.symm N13) 0 v0).other (Ne.symm N13) 1 v1).other (Ne.symm N13) 2 v2).other (Ne.symm N13) 3 v3).other (Ne.symm N23) 0 d0).other (Ne.symm N23) 1 d1).other (Ne.symm N23) 2 d2).other (Ne.symm N23) 3 d3).other (Ne.symm N23) 4 d4).set 0 x0).set 1 x1).set 2 x2).set 3 x3)
theorem watchof_any {w:World} {sl:Value} (hN:Nums w sl) {B:Nat} (hB:w.heap.size≤B) {cells offs:Nat} (hc1:1≤cells) (hc2:cells≤500) (ho:offs≤100) (t:Int) (W:World) (hu:Up w W) (hb:Box W B #[sl,.int .i64 t] 98) (t0:0≤t) (t1:t+5000≤100000) :
 Calls Tryz.prog 8 #[.pointer (some ⟨B,0,none⟩),.int .i64 cells,.int .i64 offs] W (WatchMade W B t cells offs):=by
 have KN:=hide (fun (m:Int) (m0:1≤m) (m1:m≤9223372036854775807) n V (hV:RingAt W B n V) (hn:n+1≤100000)=>(next_r hN hB m0 m1).at hu hb hB hV hn)
 have KG:=hide (fun n V (hV:RingAt W B n V) (hn:n+5≤100000)=>(gasof_r hN hB).at hu hb hB hV hn)
 have KB:=hide (fun n V (hV:RingAt W B n V) (hn:n+9≤100000)=>(boxof_r hN hB).at hu hb hB hV hn)
 have KS:=hide (fun (b:BoxD) (hbk:BOk b) n V (hV:RingAt W B n V) (hn:n+8≤100000)=>(statein_r hN hB hbk).at hu hb hB hV hn)
 have KY:=hide (fun n V (hV:RingAt W B n V) (hn:n+60≤100000)=>skyof_at hN hB hu hb hV hn)
 have KO:=hide (And.intro hN (And.intro hB (And.intro hu hb)))
 have HR:=hide (RingAt.start (n:=t) hb t0 (by omega))
 have lB:=hb.lt
 clear hN hB hu hb
 obtain ⟨z1,hz1⟩:∃ b,b=W.heap.size:=⟨_,rfl⟩
 obtain ⟨z2,hz2⟩:∃ b,b=W.heap.size+1:=⟨_,rfl⟩
 obtain ⟨z3,hz3⟩:∃ b,b=W.heap.size+1+1:=⟨_,rfl⟩
 go_enter Tryz.func8,Tryz.ntmps8
 go_wp2_with fail
 go_at_call 36
 rw [← hz3,← hz2,← hz1]
 refine forgetC (fun U=>WfZ W B t z1 z2 z3 U∧z3<U.heap.size) ⟨⟨((HR.out.alloc _).alloc _).alloc _,by rw [hz1];exact Box.go,by rw [hz2];exact Box.go,by rw [hz3];exact Box.go⟩,by rw [hz3];simp⟩ ?_
 have N1:z1≠B:=by omega
 have N2:z2≠B:=by omega
 have N3:z3≠B:=by omega
 have N12:z1≠z2:=by omega
 have N13:z1≠z3:=by omega
 have N23:z2≠z3:=by omega
 have Wz1:W.heap.size≤z1:=by omega
 have Wz2:W.heap.size≤z2:=by omega
 have Wz3:W.heap.size≤z3:=by omega
 have z12:z1<z2:=by omega
 have z23:z2<z3:=by omega
 clear hz1 hz2 hz3 HR
 rintro V0 ⟨h0,z3V⟩
 obtain ⟨m0,hm0⟩:∃ m,m=V0.heap.size:=⟨_,rfl⟩
 have hBm:B<m0:=by have:=h0.r.size;omega
 refine (KY.out t _ h0.r (by omega)).mono ?_
 rintro _ V1 ⟨_,s,rfl,hsky,hsm,hR1,hg1⟩
 obtain ⟨a,n,c,sa,sn,sc,ca,cn,cc,rfl,hL,hsn,hcn⟩:=hsky.form
 rw [← hm0] at hL
 have hn1:0<sn:=by have:=hsm.stn;omega
 have hn2:0<cn:=by have:=hsm.can;omega
 have HSM:=hide (And.intro hsm (And.intro hn1 hn2))
 have H1:=hide (And.intro (h0.grown hR1 hg1 (by simp;omega) (by simp;omega) (by simp;omega)) (And.intro hL (show m0≤V1.heap.size by have:=hg1.size;omega)))
 rw [← hm0] at z3V
 clear h0 hsky hsm hR1 hg1 hL hsn hcn hm0 hn1 hn2 KY
 generalize hhome:s.home=home at *
 go_wp2_with fail
 go_at_call 37
 refine (KG.out _ _ H1.out.1.r (by omega)).mono ?_
 rintro _ V2 ⟨_,rfl,⟨l1,l2,h1,h2,g,hd1,hd2,hd3,rfl⟩,hR,hg⟩
 have H2:=hide (And.intro (H1.out.1.grown hR hg (by simp;omega) (by simp;omega) (by simp;omega)) (And.intro (show SkyL (fun b=>m0≤b) V2 a n c sa sn sc ca cn cc s from H1.out.2.1.keeps (Keeps.grown hg (fun b hb=>by omega))) (show m0≤V2.heap.size by have:=hg.size;have:=H1.out.2.2;omega)))
 clear hR hg H1
 go_wp2_with fail
 go_at_call 38
 refine (KB.out _ _ H2.out.1.r (by omega)).mono ?_
 rintro _ V3 ⟨_,rfl,⟨b,hbx,hby,hbu,hbv,rfl⟩,hR,hg⟩
 have hbk:BOk b:=⟨⟨by omega,by omega,by omega⟩,⟨by omega,by omega,by omega⟩,⟨by omega,by omega,by omega⟩,⟨by omega,by omega,by omega⟩⟩
 have H3:=hide (And.intro (H2.out.1.grown hR hg (by simp;omega) (by simp;omega) (by simp;omega)) (And.intro (show SkyL (fun b=>m0≤b) V3 a n c sa sn sc ca cn cc s from H2.out.2.1.keeps (Keeps.grown hg (fun b hb=>by omega))) (show m0≤V3.heap.size by have:=hg.size;have:=H2.out.2.2;omega)))
 have HDD:=hide (And.intro hd1 (And.intro hd2 hd3))
 have KSb:=hide (KS.out b hbk)
 have HBB:=hide (And.intro hbk (And.intro hbx (And.intro hby (And.intro hbu hbv))))
 have KCb:=hide (fun (m:Nat) (m0:1≤m) (m1:m≤512) W=>kcells_any hbk m0 m1 W)
 clear hR hg H2 hd1 hd2 hd3 hbk hbx hby hbu hbv KS KG KB
 obtain ⟨x0,x1,y0,y1,u0,u1,v0,v1⟩:=b
 unfold boxA at KSb KCb ⊢
 dsimp only at KSb KCb HBB ⊢
 go_wp2_with fail
 go_at_call 39
 obtain ⟨q1,hq1⟩:∃ b,b=V3.heap.size:=⟨_,rfl⟩
 obtain ⟨q2,hq2⟩:∃ b,b=V3.heap.size+1:=⟨_,rfl⟩
 obtain ⟨q3,hq3⟩:∃ b,b=V3.heap.size+1+1:=⟨_,rfl⟩
 rw [← hq3,← hq2,← hq1]
 refine forgetC (fun U=>WfZ W B (t+60+5+9) z1 z2 z3 U∧SkyL (fun b=>m0≤b) U a n c sa sn sc ca cn cc s∧Box U q1 #[.slice a n c,.int .i64 home,.slice sa sn sc,.slice ca cn cc] 29∧Box U q2 #[.int .i64 (l1),.int .i64 (l2),.int .i64 (h1),.int .i64 (h2),.int .i64 (g)] 33∧Box U q3 #[.int .i64 (x0),.int .i64 (x1),.int .i64 (y0),.int .i64 (y1),.int .i64 (u0),.int .i64 (u1),.int .i64 (v0),.int .i64 (v1)] 69) ⟨H3.out.1.up Up.go,H3.out.2.1.up Up.go,by rw [hq1];exact Box.go,by rw [hq2];exact Box.go,by rw [hq3];exact Box.go⟩ ?_
 have qm1:m0≤q1:=by have:=H3.out.2.2;omega
 have q12:q1<q2:=by omega
 have q23:q2<q3:=by omega
 clear hq1 hq2 hq3 H3
 rintro V4 ⟨e1,e2,e3,e4,e5⟩
 refine (KSb.out _ _ e1.r (by omega)).mono ?_
 rintro _ V5 ⟨_,rfl,⟨sx,sy,su,sv,hsx,hsy,hsu,hsv,rfl⟩,hR,hg⟩
 have H5:=hide (And.intro (e1.grown hR hg (by simp;omega) (by simp;omega) (by simp;omega)) (And.intro (show SkyL (fun b=>m0≤b) V5 a n c sa sn sc ca cn cc s from e2.keeps (Keeps.grown hg (fun b hb=>by omega))) (And.intro (e3.grown hg (by simp;omega)) (And.intro (e4.grown hg (by simp;omega)) (e5.grown hg (by simp;omega))))))
 have HSX:=hide (show (-2800≤sx∧sx≤3200)∧(-2800≤sy∧sy≤3200)∧(-60≤su∧su≤60) ∧ -60≤sv∧sv≤60 from by have h:=HBB.out;dsimp only at h hsx hsy hsu hsv;omega)
 clear hR hg e1 e2 e3 e4 e5 KSb hsx hsy hsu hsv HBB
 go_wp2_with fail
 obtain ⟨q4,hq4⟩:∃ b,b=V5.heap.size:=⟨_,rfl⟩
 rw [← hq4]
 refine forgetW (fun U=>WfZ W B (t+60+5+9+8) z1 z2 z3 U∧(SkyL (fun b=>m0≤b) U a n c sa sn sc ca cn cc s∧Box U q1 #[.slice a n c,.int .i64 home,.slice sa sn sc,.slice ca cn cc] 29∧Box U q2 #[.int .i64 (l1),.int .i64 (l2),.int .i64 (h1),.int .i64 (h2),.int .i64 (g)] 33∧Box U q4 #[.int .i64 (sx),.int .i64 (sy),.int .i64 (su),.int .i64 (sv)] 37)∧Box U q3 #[.int .i64 (x0),.int .i64 (x1),.int .i64 (y0),.int .i64 (y1),.int .i64 (u0),.int .i64 (u1),.int .i64 (v0),.int .i64 (v1)] 69) ⟨H5.out.1.up Up.go,⟨H5.out.2.1.up Up.go,H5.out.2.2.1.up Up.go,H5.out.2.2.2.1.up Up.go,by rw [hq4];exact Box.go⟩,H5.out.2.2.2.2.up Up.go⟩ ?_
 have q34:q3<q4:=by have:=H5.out.2.2.2.2.lt;omega
 clear hq4 H5
 intro V6 h6
 have H6:=hide h6
 clear h6
 have NB1:q1≠B:=by omega
 have NB2:q2≠B:=by omega
 have NB3:q3≠B:=by omega
 have NB4:q4≠B:=by omega
 have hS0:=hide (show Box V6.drew q3 #[.int .i64 (x0),.int .i64 (x1),.int .i64 (y0),.int .i64 (y1),.int .i64 (u0),.int .i64 (u1),.int .i64 (v0),.int .i64 (v1)] 69 from H6.out.2.2.drew)
 refine wp_region_L (fun W'=>Box W' q3 #[.int .i64 (x0),.int .i64 (x1),.int .i64 (y0),.int .i64 (y1),.int .i64 (u0),.int .i64 (u1),.int .i64 (v0),.int .i64 (v1)] 69) 6 (by kernel_rfl) ?_
 refine anyL_take 0 (v:=(.agg #[.int .i64 (x0),.int .i64 (x1),.int .i64 (y0),.int .i64 (y1),.int .i64 (u0),.int .i64 (u1),.int .i64 (v0),.int .i64 (v1)])) rfl (by kernel_rfl) (fun _ _ _ h=>h) (.inl ⟨rfl,fun W' hW'=>by have e0:=Box.cell hW' 0 rfl;have e1:=Box.cell hW' 1 rfl;have e2:=Box.cell hW' 2 rfl;have e3:=Box.cell hW' 3 rfl;have e4:=Box.cell hW' 4 rfl;have e5:=Box.cell hW' 5 rfl;have e6:=Box.cell hW' 6 rfl;have e7:=Box.cell hW' 7 rfl;simp [go_sem,e0,e1,e2,e3,e4,e5,e6,e7]⟩) hS0.out ?_
 simp only [Act.put,List.setIfInBounds_toArray,List.set_cons_zero,List.set_cons_succ]
 refine anyL_take 1 (v:=(.pointer (some ⟨B,0,none⟩))) rfl (by kernel_rfl) (fun _ _ _ h=>h) (.inl ⟨rfl,fun W' hW'=>by simp [go_sem]⟩) hS0.out ?_
 simp only [Act.put,List.setIfInBounds_toArray,List.set_cons_zero,List.set_cons_succ]
 refine anyL_take 2 (v:=(.int .i64 cells)) rfl (by kernel_rfl) (fun _ _ _ h=>h) (.inl ⟨rfl,fun W' hW'=>by simp [go_sem]⟩) hS0.out ?_
 simp only [Act.put,List.setIfInBounds_toArray,List.set_cons_zero,List.set_cons_succ]
 refine anyL_one (i:=3) (by kernel_rfl) rfl (fun K HK=>?_)
 go_wp2_with fail
 go_at_call 34
 refine (KN.out cells (by omega) (by omega) _ _ H6.out.1.r.drew (by omega)).mono ?_
 rintro _ V7 ⟨_,rfl,⟨k,k0,k1,rfl⟩,hR,hg⟩
 obtain ⟨kk,rfl⟩:=Int.eq_ofNat_of_zero_le k0
 have hkk:1+kk≤cells:=by omega
 have H7:=hide (And.intro ((H6.out.1.up (Up.refl _).drew).grown hR hg (by simp;omega) (by simp;omega) (by simp;omega)) (And.intro (show SkyL (fun b=>m0≤b) V7 a n c sa sn sc ca cn cc s∧Box V7 q1 #[.slice a n c,.int .i64 home,.slice sa sn sc,.slice ca cn cc] 29∧Box V7 q2 #[.int .i64 (l1),.int .i64 (l2),.int .i64 (h1),.int .i64 (h2),.int .i64 (g)] 33∧Box V7 q4 #[.int .i64 (sx),.int .i64 (sy),.int .i64 (su),.int .i64 (sv)] 37 from ⟨(H6.out.2.1.1.up (Up.refl _).drew).keeps (Keeps.grown hg (fun b hb=>by omega)),H6.out.2.1.2.1.drew.grown hg (by simp;omega),H6.out.2.1.2.2.1.drew.grown hg (by simp;omega),H6.out.2.1.2.2.2.drew.grown hg (by simp;omega)⟩) (H6.out.2.2.drew.grown hg (by simp;omega))))
 clear hR hg hS0 H6 k0 k1
 go_wp2_with fail
 refine HK.out _ _ (fun _=>H7.out.2.2) ?_
 clear HK
 refine anyL_one (i:=4) (by kernel_rfl) rfl (fun K HK=>?_)
 go_wp2_with fail
 refine HK.out _ _ (fun _=>H7.out.2.2) ?_
 clear HK
 refine anyL_one (i:=5) (by kernel_rfl) rfl (fun K HK=>?_)
 go_wp2_with fail
 go_at_call 40
 rw [show (1:Int)+(kk:Int)=((1+kk:Nat):Int) from by omega]
 refine (KCb.out (1+kk) (by omega) (by omega) _).mono ?_
 rintro _ _ ⟨ba,bn,bc,set,p8,rfl,hbs,hbl,hbo,rfl⟩
 have hz7:m0≤V7.heap.size:=by have:=H7.out.2.1.2.1.lt;omega
 have H8:=hide (And.intro (H7.out.1.up ((Up.refl _).ext p8)) (And.intro (show SkyL (fun b=>m0≤b) (ext V7 p8) a n c sa sn sc ca cn cc s∧Box (ext V7 p8) q1 #[.slice a n c,.int .i64 home,.slice sa sn sc,.slice ca cn cc] 29∧Box (ext V7 p8) q2 #[.int .i64 (l1),.int .i64 (l2),.int .i64 (h1),.int .i64 (h2),.int .i64 (g)] 33∧Box (ext V7 p8) q4 #[.int .i64 (sx),.int .i64 (sy),.int .i64 (su),.int .i64 (sv)] 37 from ⟨H7.out.2.1.1.up ((Up.refl _).ext p8),H7.out.2.1.2.1.ext p8,H7.out.2.1.2.2.1.ext p8,H7.out.2.1.2.2.2.ext p8⟩) (And.intro (show Boxes (fun b=>m0≤b) (ext V7 p8) (.slice ba bn bc) set from hbs.mono (fun b _ hb=>Nat.le_trans hz7 hb)) (H7.out.2.2.ext p8))))
 have HSET:=hide (And.intro (And.intro hbl.1 (Nat.le_trans hbl.2 hkk)) hbo)
 clear hbs hbl hbo hz7 H7 KCb hkk
 go_wp2_with fail
 refine HK.out _ _ (fun _=>H8.out.2.2.2) ?_
 clear HK
 refine anyL_one (i:=6) (by kernel_rfl) rfl (fun K HK=>?_)
 go_wp2_with fail
 refine HK.out _ _ (fun h=>(h rfl).elim) ?_
 clear HK
 refine anyL_done (by kernel_rfl) ?_
 go_wp2_with fail
 go_at_call 34
 refine (KN.out (offs+1) (by omega) (by omega) _ _ H8.out.1.r (by omega)).mono ?_
 rintro _ V9 ⟨_,rfl,⟨j,j0,j1,rfl⟩,hR,hg⟩
 obtain ⟨jj,rfl⟩:=Int.eq_ofNat_of_zero_le j0
 have hjj:jj≤offs:=by omega
 obtain ⟨Z,hZ⟩:∃ Z,Z=V9.heap.size:=⟨_,rfl⟩
 have hq4Z:q4<Z:=by have:=H8.out.2.1.2.2.2.lt;have:=hg.size;omega
 have H9:=hide (And.intro (H8.out.1.grown hR hg (by simp;omega) (by simp;omega) (by simp;omega)) (And.intro (show WfM (fun b=>m0≤b∧b<Z) a n c sa sn sc ca cn cc s home q1 q2 q4 ⟨(l1,l2),(h1,h2),g⟩ sx sy su sv V9 from
  ⟨(H8.out.2.1.1.keeps (Keeps.grown hg (fun b hb=>by omega))).mono (fun b hl hb=>by omega),H8.out.2.1.2.1.grown hg (by simp;omega),H8.out.2.1.2.2.1.grown hg (by simp;omega),H8.out.2.1.2.2.2.grown hg (by simp;omega)⟩) (And.intro (show Boxes (fun b=>m0≤b∧b<Z) V9 (.slice ba bn bc) set from (H8.out.2.2.1.keeps (Keeps.grown hg (fun b hb=>by omega))).mono (fun b hl hb=>by omega)) (And.intro (Own.nil TOff 50 Z V9) (Nat.le_of_eq hZ)))))
 clear hR hg H8 j0 j1 hZ
 go_wp2_with fail
 go_loopw [16,17] (fun s16 s17 wr=>∃ (k:Nat) (lo:List OffD),k≤offs∧lo.length+k≤offs∧s17=.int .i64 k∧Hid (WfZ W B (t+60+5+9+8+1+1+16*(offs - k)) z1 z2 z3 wr∧WfM (fun b=>m0≤b∧b<Z) a n c sa sn sc ca cn cc s home q1 q2 q4 ⟨(l1,l2),(h1,h2),g⟩ sx sy su sv wr∧Boxes (fun b=>m0≤b∧b<Z) wr (.slice ba bn bc) set∧Own TOff 50 Z wr s16 lo∧Z≤wr.heap.size)∧Hid (∀ o∈lo,offE s o=0∧0≤o.tick∧o.tick≤3)) (fun _ s17 _=>(intOf s17).toNat)
 case atStart=>exact ⟨jj,[],hjj,by simpa using hjj,rfl,hide ⟨⟨H9.out.1.r.mono (by omega),H9.out.1.a,H9.out.1.b,H9.out.1.c⟩,H9.out.2⟩,hide (fun o ho=>by cases ho)⟩
 case round =>
  obtain ⟨k,lo,hk,hlk,rfl,HI,HLO⟩:=hrel
  clear H9
  by_cases hlt:0<k
  · obtain ⟨k',rfl⟩:∃ k',k=k'+1:=⟨k - 1,by omega⟩
    have hkb:decide ((0:Int)<((k'+1:Nat):Int))=true:=decide_eq_true (by omega)
    have hkn:decide (0<k'+1)=true:=decide_eq_true (by omega)
    have hkm:decide ((0:Int)<(k':Int)+1)=true:=decide_eq_true (by omega)
    go_wp2_with fail
    go_at_call 34
    refine (KN.out 4 (by omega) (by omega) _ _ HI.out.1.r (by omega)).mono ?_
    rintro _ V10 ⟨_,rfl,⟨tk,tk0,tk1,rfl⟩,hR,hg⟩
    have hnB:∀ q,u16.ownBlock=some q→q≠B:=fun q hq=>by have:=HI.out.2.2.2.1.lt q hq;omega
    have H10:=hide (And.intro (HI.out.1.grown hR hg (by simp;omega) (by simp;omega) (by simp;omega)) (And.intro (HI.out.2.1.grown hg (by intro b hb;simp;omega) (by simp;omega) (by simp;omega) (by simp;omega)) (And.intro (show Boxes (fun b=>m0≤b∧b<Z) V10 (.slice ba bn bc) set from HI.out.2.2.1.keeps (Keeps.grown hg (fun b hb=>by omega))) (And.intro (show Own TOff 50 Z V10 u16 lo from ownsRow_keeps (K:=fun q=>u16.ownBlock=some q) HI.out.2.2.2.1 (Keeps.grown hg hnB) fun _ e=>e) (Nat.le_trans HI.out.2.2.2.2 hg.size)))))
    clear hR hg hnB HI
    obtain ⟨mu,hmu,mu0,mu1⟩:∃ mu,tk*su=mu ∧ -180≤mu∧mu≤180:=⟨_,rfl,by
     have hs:=HSX.out
     have e:tk=0∨tk=1∨tk=2∨tk=3:=by omega
     rcases e with rfl | rfl | rfl | rfl <;> omega⟩
    obtain ⟨mv,hmv,mv0,mv1⟩:∃ mv,tk*sv=mv ∧ -180≤mv∧mv≤180:=⟨_,rfl,by
     have hs:=HSX.out
     have e:tk=0∨tk=1∨tk=2∨tk=3:=by omega
     rcases e with rfl | rfl | rfl | rfl <;> omega⟩
    have hsx:=HSX.out.1
    have hsy:=HSX.out.2.1
    obtain ⟨aa0,aa1,aa2,aa3⟩:=(H10.out.2.1.s).c4
    have laa:=(H10.out.2.1.s).lt
    obtain ⟨fzaa0,fzaa1,fzaa2,fzaa3⟩:=(H10.out.2.1.s).f4
    obtain ⟨xx0,xx1,xx2,xx3⟩:=(H10.out.2.1.x).c4
    have lxx:=(H10.out.2.1.x).lt
    obtain ⟨fzxx0,fzxx1,fzxx2,fzxx3⟩:=(H10.out.2.1.x).f4
    go_wp2_with fail
    go_at_call 41
    rw [← hhome]
    refine (offerof_at KO.out.1 (B:=B) KO.out.2.1 (K:=fun b=>m0≤b∧b<Z) (fun b hb=>by omega) HSM.out.1.valid HSM.out.2.1 HSM.out.2.2 (tick:=tk) ⟨tk0,by omega⟩ (px:=sx+mu) (py:=sy+mv) ⟨⟨by omega,by omega⟩,by omega,by omega⟩ KO.out.2.2.1 KO.out.2.2.2 H10.out.1.r H10.out.2.1.l (by omega)).mono ?_
    rintro _ V11 ⟨_,rfl,⟨o,hoe,hot,hof,rfl⟩,hR,hg⟩
    have hnB:∀ q,u16.ownBlock=some q→q≠B:=fun q hq=>by have:=H10.out.2.2.2.1.lt q hq;omega
    have H11:=hide (And.intro (H10.out.1.grown hR hg (by simp;omega) (by simp;omega) (by simp;omega)) (And.intro (H10.out.2.1.grown hg (by intro b hb;simp;omega) (by simp;omega) (by simp;omega) (by simp;omega)) (And.intro (show Boxes (fun b=>m0≤b∧b<Z) V11 (.slice ba bn bc) set from H10.out.2.2.1.keeps (Keeps.grown hg (fun b hb=>by omega))) (And.intro (show Own TOff 50 Z V11 u16 lo from ownsRow_keeps (K:=fun q=>u16.ownBlock=some q) H10.out.2.2.2.1 (Keeps.grown hg hnB) fun _ e=>e) (Nat.le_trans H10.out.2.2.2.2 hg.size)))))
    have HOO:=hide (show offE s o=0∧0≤o.tick∧o.tick≤3 from ⟨hoe,by omega,by omega⟩)
    have HUW:=hide (hR.up KO.out.2.2.1 KO.out.2.1)
    clear hR hg hnB H10 hoe hot hof aa0 aa1 aa2 aa3 laa fzaa0 fzaa1 fzaa2 fzaa3 xx0 xx1 xx2 xx3 lxx fzxx0 fzxx1 fzxx2 fzxx3
    have hloc:lo.length≤100000:=by omega
    obtain ⟨va,vc,hv⟩:=H11.out.2.2.2.1.form
    subst hv
    go_wp2_with (at_builtin;with_reducible refine stopA rfl ?_)
    refine hide ?_
    refine wpList_pushG elem_off rfl (.tmp 44) (.tmp 64) rfl (w0:=w) (HUW.out.trans Up.go) (base:=Z) (by have:=HUW.out.below.size;have:=KO.out.2.1;omega) (Nat.le_trans H11.out.2.2.2.2 (by simp)) rfl (H11.out.2.2.2.1.up Up.go) hloc (by decide) o rfl (Box.mk (by simp [TOff,offL,offA])) ?_
    intro gN cN W' huW ho hgr
    have hnr:∀ q,(Value.slice va lo.length vc).ownBlock=some q→Z≤q:=fun q hq=>(H11.out.2.2.2.1.lt q hq).1
    have hWZ:W.heap.size≤Z:=by omega
    have H12:=hide (And.intro ((H11.out.1.up Up.go).grown ((H11.out.1.r.ofUp Up.go).grown hgr (fun q hq=>by have:=hnr q hq;omega)) hgr (fun e=>by have:=hnr _ e;omega) (fun e=>by have:=hnr _ e;omega) (fun e=>by have:=hnr _ e;omega)) (And.intro ((H11.out.2.1.up Up.go).grown hgr (fun b hb e=>by have:=hnr _ e;omega) (fun e=>by have:=hnr _ e;omega) (fun e=>by have:=hnr _ e;omega) (fun e=>by have:=hnr _ e;omega)) (And.intro (show Boxes (fun b=>m0≤b∧b<Z) W' (.slice ba bn bc) set from (H11.out.2.2.1.keeps (Up.keeps Up.go _)).keeps ⟨hgr.size,fun b hb hl=>hgr.block b hl (fun e=>by have:=hnr _ e.symm;omega)⟩) (And.intro ho (Nat.le_trans H11.out.2.2.2.2 (Nat.le_trans (by simp) hgr.size))))))
    clear huW ho hgr hnr H11 HUW
    go_wp2_with fail
    go_roundw
    case rel=>exact ⟨k',lo++[o],by omega,by simp;omega,by go_num,hide ⟨⟨H12.out.1.r.mono (by omega),H12.out.1.a,H12.out.1.b,H12.out.1.c⟩,H12.out.2⟩,hide (fun x hx=>by
     rcases List.mem_append.1 hx with h | h
     · exact HLO.out x h
     · simp at h;subst h;exact HOO.out)⟩
    case measure=>simp [intOf]
  · have hkb:decide ((0:Int)<(k:Int))=false:=by simp;omega
    have hkn:decide (0<k)=false:=by simp;omega
    obtain rfl:k=0:=by omega
    obtain ⟨va,vc,hv⟩:=HI.out.2.2.2.1.form
    subst hv
    have hlo9:lo.length≤offs:=by omega
    go_wp2_with fail
    have HL:=hide (show Lst TOff (fun b=>Z≤b) wr (.slice va lo.length vc) lo from HI.out.2.2.2.1.lies (by omega))
    have hS0:=hide (show Box wr.drew q1 #[.slice a n c,.int .i64 home,.slice sa sn sc,.slice ca cn cc] 29∧Box wr.drew q2 #[.int .i64 (l1),.int .i64 (l2),.int .i64 (h1),.int .i64 (h2),.int .i64 (g)] 33∧Box wr.drew q4 #[.int .i64 (sx),.int .i64 (sy),.int .i64 (su),.int .i64 (sv)] 37 from ⟨HI.out.2.1.s.drew,HI.out.2.1.d.drew,HI.out.2.1.x.drew⟩)
    refine wp_region_L (fun W'=>Box W' q1 #[.slice a n c,.int .i64 home,.slice sa sn sc,.slice ca cn cc] 29∧Box W' q2 #[.int .i64 (l1),.int .i64 (l2),.int .i64 (h1),.int .i64 (h2),.int .i64 (g)] 33∧Box W' q4 #[.int .i64 (sx),.int .i64 (sy),.int .i64 (su),.int .i64 (sv)] 37) 9 (by kernel_rfl) ?_
    refine anyL_take 0 (v:=(.agg #[.slice a n c,.int .i64 home,.slice sa sn sc,.slice ca cn cc])) rfl (by kernel_rfl) (fun _ _ _ h=>h) (.inl ⟨rfl,fun W' hW'=>by have e0:=Box.cell hW'.1 0 rfl;have e1:=Box.cell hW'.1 1 rfl;have e2:=Box.cell hW'.1 2 rfl;have e3:=Box.cell hW'.1 3 rfl;simp [go_sem,e0,e1,e2,e3]⟩) hS0.out ?_
    simp only [Act.put,List.setIfInBounds_toArray,List.set_cons_zero,List.set_cons_succ]
    refine anyL_take 1 (v:=(.agg #[.int .i64 (l1),.int .i64 (l2),.int .i64 (h1),.int .i64 (h2),.int .i64 (g)])) rfl (by kernel_rfl) (fun _ _ _ h=>h) (.inl ⟨rfl,fun W' hW'=>by have e0:=Box.cell hW'.2.1 0 rfl;have e1:=Box.cell hW'.2.1 1 rfl;have e2:=Box.cell hW'.2.1 2 rfl;have e3:=Box.cell hW'.2.1 3 rfl;have e4:=Box.cell hW'.2.1 4 rfl;simp [go_sem,e0,e1,e2,e3,e4]⟩) hS0.out ?_
    simp only [Act.put,List.setIfInBounds_toArray,List.set_cons_zero,List.set_cons_succ]
    refine anyL_take 2 (v:=(.slice ba bn bc)) rfl (by kernel_rfl) (fun _ _ _ h=>h) (.inl ⟨rfl,fun W' hW'=>by simp [go_sem]⟩) hS0.out ?_
    simp only [Act.put,List.setIfInBounds_toArray,List.set_cons_zero,List.set_cons_succ]
    refine anyL_take 3 (v:=(.slice va lo.length vc)) rfl (by kernel_rfl) (fun _ _ _ h=>h) (.inl ⟨rfl,fun W' hW'=>by simp [go_sem]⟩) hS0.out ?_
    simp only [Act.put,List.setIfInBounds_toArray,List.set_cons_zero,List.set_cons_succ]
    refine anyL_take 4 (v:=(.agg #[.int .i64 (sx),.int .i64 (sy),.int .i64 (su),.int .i64 (sv)])) rfl (by kernel_rfl) (fun _ _ _ h=>h) (.inl ⟨rfl,fun W' hW'=>by have e0:=Box.cell hW'.2.2 0 rfl;have e1:=Box.cell hW'.2.2 1 rfl;have e2:=Box.cell hW'.2.2 2 rfl;have e3:=Box.cell hW'.2.2 3 rfl;simp [go_sem,e0,e1,e2,e3]⟩) hS0.out ?_
    simp only [Act.put,List.setIfInBounds_toArray,List.set_cons_zero,List.set_cons_succ]
    obtain ⟨ya0,ya1,ya2,ya3⟩:=(HI.out.1.a).c4
    have lya:=(HI.out.1.a).lt
    obtain ⟨fzya0,fzya1,fzya2,fzya3⟩:=(HI.out.1.a).f4
    obtain ⟨yb0,yb1,yb2,yb3,yb4⟩:=(HI.out.1.b).c5
    have lyb:=(HI.out.1.b).lt
    obtain ⟨fzyb0,fzyb1,fzyb2,fzyb3,fzyb4⟩:=(HI.out.1.b).f5
    obtain ⟨yc0,yc1,yc2,yc3⟩:=(HI.out.1.c).c4
    have lyc:=(HI.out.1.c).lt
    obtain ⟨fzyc0,fzyc1,fzyc2,fzyc3⟩:=(HI.out.1.c).f4
    have M11:q1≠z1:=by omega
    have M12:q1≠z2:=by omega
    have M13:q1≠z3:=by omega
    have M21:q2≠z1:=by omega
    have M22:q2≠z2:=by omega
    have M23:q2≠z3:=by omega
    have M41:q4≠z1:=by omega
    have M42:q4≠z2:=by omega
    have M43:q4≠z3:=by omega
    refine anyL_one (i:=5) (by kernel_rfl) rfl (fun K HK=>?_)
    go_wp2_with fail
    refine HK.out _ _ (fun _=>⟨((((HI.out.2.1.s.other M11 0 _).other M11 1 _).other M11 2 _).other M11 3 _).drew,((((HI.out.2.1.d.other M21 0 _).other M21 1 _).other M21 2 _).other M21 3 _).drew,((((HI.out.2.1.x.other M41 0 _).other M41 1 _).other M41 2 _).other M41 3 _).drew⟩) ?_
    clear HK
    refine anyL_one (i:=6) (by kernel_rfl) rfl (fun K HK=>?_)
    go_wp2_with fail
    refine HK.out _ _ (fun _=>⟨(((((((((HI.out.2.1.s.other M11 0 _).other M11 1 _).other M11 2 _).other M11 3 _).other M12 0 _).other M12 1 _).other M12 2 _).other M12 3 _).other M12 4 _).drew,(((((((((HI.out.2.1.d.other M21 0 _).other M21 1 _).other M21 2 _).other M21 3 _).other M22 0 _).other M22 1 _).other M22 2 _).other M22 3 _).other M22 4 _).drew,(((((((((HI.out.2.1.x.other M41 0 _).other M41 1 _).other M41 2 _).other M41 3 _).other M42 0 _).other M42 1 _).other M42 2 _).other M42 3 _).other M42 4 _).drew⟩) ?_
    clear HK
    refine anyL_one (i:=7) (by kernel_rfl) rfl (fun K HK=>?_)
    go_wp2_with fail
    refine HK.out _ _ (fun _=>⟨(((((((((HI.out.2.1.s.other M11 0 _).other M11 1 _).other M11 2 _).other M11 3 _).other M12 0 _).other M12 1 _).other M12 2 _).other M12 3 _).other M12 4 _).drew,(((((((((HI.out.2.1.d.other M21 0 _).other M21 1 _).other M21 2 _).other M21 3 _).other M22 0 _).other M22 1 _).other M22 2 _).other M22 3 _).other M22 4 _).drew,(((((((((HI.out.2.1.x.other M41 0 _).other M41 1 _).other M41 2 _).other M41 3 _).other M42 0 _).other M42 1 _).other M42 2 _).other M42 3 _).other M42 4 _).drew⟩) ?_
    clear HK
    refine anyL_one (i:=8) (by kernel_rfl) rfl (fun K HK=>?_)
    go_wp2_with fail
    refine HK.out _ _ (fun _=>⟨(((((((((HI.out.2.1.s.other M11 0 _).other M11 1 _).other M11 2 _).other M11 3 _).other M12 0 _).other M12 1 _).other M12 2 _).other M12 3 _).other M12 4 _).drew,(((((((((HI.out.2.1.d.other M21 0 _).other M21 1 _).other M21 2 _).other M21 3 _).other M22 0 _).other M22 1 _).other M22 2 _).other M22 3 _).other M22 4 _).drew,(((((((((HI.out.2.1.x.other M41 0 _).other M41 1 _).other M41 2 _).other M41 3 _).other M42 0 _).other M42 1 _).other M42 2 _).other M42 3 _).other M42 4 _).drew⟩) ?_
    clear HK
    refine anyL_one (i:=9) (by kernel_rfl) rfl (fun K HK=>?_)
    go_wp2_with fail
    refine HK.out _ _ (fun h=>(h rfl).elim) ?_
    clear HK
    refine anyL_done (by kernel_rfl) ?_
    go_wp2_with fail
    refine forgetW (fun U=>RingAt W B (t+60+5+9+8+1+1+16*(offs - (0:Nat))) U∧SkyL (fun b=>m0≤b∧b<Z) U a n c sa sn sc ca cn cc s∧Boxes (fun b=>m0≤b∧b<Z) U (.slice ba bn bc) set∧Lst TOff (fun b=>Z≤b) U (.slice va lo.length vc) lo∧Box U z1 #[.slice a n c,.int .i64 home,.slice sa sn sc,.slice ca cn cc] 29∧Box U z2 #[.int .i64 (l1),.int .i64 (l2),.int .i64 (h1),.int .i64 (h2),.int .i64 (g)] 33∧Box U z3 #[.int .i64 (sx),.int .i64 (sy),.int .i64 (su),.int .i64 (sv)] 37) ?_ ?_
    · have h:=wf_end HI.out.1 HI.out.2.1.l HI.out.2.2.1 HL.out (by omega) (by omega) (by omega) (by omega) (by omega) (by omega) Wz1 Wz2 Wz3 N12 N13 N23 (.slice a n c) (.int .i64 home) (.slice sa sn sc) (.slice ca cn cc) (.int .i64 l1) (.int .i64 l2) (.int .i64 h1) (.int .i64 h2) (.int .i64 g) (.int .i64 sx) (.int .i64 sy) (.int .i64 su) (.int .i64 sv)
      exact ⟨h.1.drew,h.2.1.up (Up.refl _).drew,h.2.2.1.keeps ((Up.refl _).drew.keeps _),h.2.2.2.1.up (Up.refl _).drew,h.2.2.2.2.1.drew,h.2.2.2.2.2.1.drew,h.2.2.2.2.2.2.drew⟩
    clear HI HL hS0 ya0 ya1 ya2 ya3 lya fzya0 fzya1 fzya2 fzya3 yb0 yb1 yb2 yb3 yb4 lyb fzyb0 fzyb1 fzyb2 fzyb3 fzyb4 yc0 yc1 yc2 yc3 lyc fzyc0 fzyc1 fzyc2 fzyc3
    rintro U ⟨f1,f2,f3,f4,f5,f6,f7⟩
    obtain ⟨ca_0,ca_1,ca_2,ca_3⟩:=f5.c4
    obtain ⟨cb_0,cb_1,cb_2,cb_3,cb_4⟩:=f6.c5
    obtain ⟨cd_0,cd_1,cd_2,cd_3⟩:=f7.c4
    exact bodyPost_ret (v:=.tuple #[.agg #[.slice a n c,.int .i64 home,.slice sa sn sc,.slice ca cn cc],.agg #[.int .i64 (l1),.int .i64 (l2),.int .i64 (h1),.int .i64 (h2),.int .i64 (g)],.slice ba bn bc,.slice va lo.length vc,.agg #[.int .i64 (sx),.int .i64 (sy),.int .i64 (su),.int .i64 (sv)]]) (by simp [results,Tryz.results8,go_sem,ca_0,ca_1,ca_2,ca_3,cb_0,cb_1,cb_2,cb_3,cb_4,cd_0,cd_1,cd_2,cd_3]) rfl ⟨a,n,c,sa,sn,sc,ca,cn,cc,s,⟨(l1,l2),(h1,h2),g⟩,ba,bn,bc,set,va,lo.length,vc,lo,sx,sy,su,sv,by rw [hhome],f1.mono (by omega),f2.mono (fun b _ hb=>by omega),HSM.out.1,f3.mono (fun b _ hb=>by omega),f4.mono (fun b _ hb=>by omega),HSET.out.1,HSET.out.2,hlo9,HLO.out,HDD.out,HSX.out⟩
def TRd:Rw (Int×Int):=⟨2,fun x=>[.int .i64 x.1,.int .i64 x.2],by decide,fun _=>rfl,fun _ u hu=>by simp only [List.mem_cons,List.not_mem_nil,or_false] at hu;rcases hu with rfl | rfl <;> rfl⟩
theorem Tryz.infordg:(Tryz.prog.info? 82).map (fun i=>(i.zero,i.size,i.bytes))=some (some (.agg #[.int .i64 (0),.int .i64 (0)]),2,16):=by kernel_rfl
theorem elem_rdg:ElemOk Tryz.prog TRd 80 82 16:=by
 obtain ⟨i,h1,h2,h3,h4⟩:=info_parts Tryz.infordg
 exact ⟨Tryz.underlying80,i,_,h1,h2,h3,h4,rfl⟩
theorem Rds.at {K:Nat→Prop} {w:World} {a:Option Addr} {n c:Nat} {l:List (Int×Int)} (h:Lst TRd K w (.slice a n c) l):n=l.length∧n≤9223372036854775807 ∧
 ∀ i,i<n→∃ b o p,a=some ⟨b,o,none⟩∧K b∧b<w.heap.size∧l[i]?=some p∧w.cell? ⟨b,o+i*2,none⟩=some (.int .i64 p.1)∧w.cell? ⟨b,o+i*2+1,none⟩=some (.int .i64 p.2):=by
 obtain ⟨a',c',h1,h2,h3⟩:=h
 simp at h1
 obtain ⟨rfl,rfl,rfl⟩:=h1
 refine ⟨rfl,h2,fun i hi=>?_⟩
 obtain ⟨b,o,rfl,hK,hb,hc⟩:=h3 (by intro e;subst e;simp at hi)
 obtain ⟨vs,rfl,_,hx⟩:=hc i l[i] (List.getElem?_eq_getElem hi)
 exact ⟨b,o,l[i],rfl,hK,hb,List.getElem?_eq_getElem hi,hx 0 _ rfl,hx 1 _ rfl⟩
theorem ixrdg_any (g:Nat) (cap:Array Value) (eg:∀ args w,(callFunc g args).run Tryz.prog w=.ok (.enter g args) w) (F:Int×Int→Bool) {K:Nat→Prop} {a:Option Addr} {n c:Nat} {l:List (Int×Int)} {w:World} (hl:Lst TRd K w (.slice a n c) l)
 (hF:∀ p W,p∈l→Up w W→Gives Tryz.prog g (#[.agg #[.int .i64 p.1,.int .i64 p.2]]++cap) W (.bool (F p))) :
 Gives Tryz.prog 121 #[.slice a n c,.func (.func g) #[] cap] w (.int .i64 (firstI F l)):=by
 have hn:=(Rds.at hl).1
 have hm:=(Rds.at hl).2.1
 have HF:=hide (And.intro hF hl)
 have HN:=hide hn
 clear hF hl hn
 (unfold Gives;go_enter Tryz.func121,Tryz.ntmps121)
 go_wp2
 go_loopw [8] (fun s8 wr=>∃ k:Nat,k≤n∧s8=.int .i64 k∧Up w wr∧Hid (noneYet F l k)) (fun s8 _=>n - (intOf s8).toNat)
 case atStart=>exact ⟨0,by omega,rfl,Up.refl _,hide (fun i p hi _=>by omega)⟩
 case round =>
  obtain ⟨k,hk,rfl,hu,hb⟩:=hrel
  by_cases hlt:k<n
  · obtain ⟨b,o,p,rfl,hKb,hbw,hp,hc0,hc1⟩:=(Rds.at (HF.out.2.keeps (hu.keeps K))).2.2 k hlt
    have hkb:decide ((k:Int)<n)=true:=by simp;omega
    have HC:=hide (HF.out.1 p _ (List.mem_of_getElem? hp) hu)
    have HP:=hide hp
    have HU:=hide hu
    clear hp hu hKb
    rcases hF:F p with _ | _
    · have HS:=hide hF
      rw [hF] at HC
      clear hF
      go_wp2
      refine HC.out.mono ?_
      intro px
      go_wp2
      refine ⟨⟨k+1,by omega,by go_num,HU.out.ext _,hide (hb.out.succ HP.out HS.out)⟩,by simp [intOf];omega⟩
    · have HS:=hide hF
      rw [hF] at HC
      clear hF
      go_wp2
      refine HC.out.mono ?_
      intro px
      go_wp2
      go_ret
      exact ⟨by rw [firstI_found hb.out HP.out HS.out];rfl,HU.out.ext _⟩
  · have hkb:decide ((k:Int)<n)=false:=by simp;omega
    obtain rfl:k=n:=by omega
    go_wp2
    go_ret
    exact ⟨by rw [firstI_none (by rw [← HN.out];exact hb.out)];rfl,hu⟩
theorem anyrdg_any (g:Nat) (cap:Array Value) (eg:∀ args w,(callFunc g args).run Tryz.prog w=.ok (.enter g args) w) (F:Int×Int→Bool) {K:Nat→Prop} {a:Option Addr} {n c:Nat} {l:List (Int×Int)} {w:World} (hl:Lst TRd K w (.slice a n c) l)
 (hF:∀ p W,p∈l→Up w W→Gives Tryz.prog g (#[.agg #[.int .i64 p.1,.int .i64 p.2]]++cap) W (.bool (F p))) :
 Gives Tryz.prog 72 #[.slice a n c,.func (.func g) #[] cap] w (.bool (l.any F)):=by
 have HX:=hide (ixrdg_any g cap eg F hl hF)
 clear hl hF
 (unfold Gives;go_enter Tryz.func72,Tryz.ntmps72)
 go_wp2_with (go_at_call 121;refine (HX.out).mono ?_;intro _)
 go_ret
 exact ⟨ret_bool (firstI_ge F l),Up.go⟩
def rdB (r:Int×Int):Bool:=withinB r.1 0 2
def leftB (v:VwD) (r:Int×Int):Bool:=if r.1=1 then !v.2.1 else if r.1=2 then (v.1&&withinB r.2 v.2.2.1 v.2.2.2) else true
theorem wleft1_any (p:Int×Int) (w:World):Gives Tryz.prog 73 (#[.agg #[.int .i64 p.1,.int .i64 p.2]]++#[]) w (.bool (!rdB p)):=by
 have HI:=hide (fun W=>wwithin_any p.1 0 2 W)
 show Gives Tryz.prog 73 #[.agg #[.int .i64 p.1,.int .i64 p.2]] w (.bool (!rdB p))
 unfold rdB
 generalize withinB p.1 0 2=B at *
 (unfold Gives;go_enter Tryz.func73,Tryz.ntmps73)
 go_wp2_with (go_at_call 45;refine (HI.out _).mono ?_;intro _)
 go_ret
 exact ⟨rfl,Up.go⟩
theorem wleft_any (v:VwD) (r:Int×Int) (w:World):Gives Tryz.prog 74 #[.agg (vwA v),.agg #[.int .i64 r.1,.int .i64 r.2]] w (.bool (leftB v r)):=by
 obtain ⟨v1,v2,v3,v4⟩:=v
 obtain ⟨r1,r2⟩:=r
 unfold leftB vwA
 dsimp only
 have HI:=hide (fun W=>wwithin_any r2 v3 v4 W)
 generalize withinB r2 v3 v4=B at *
 by_cases h1:r1=1
 · rw [if_pos h1]
   subst h1
   (unfold Gives;go_enter Tryz.func74,Tryz.ntmps74)
   go_wp2
   go_ret
   exact ⟨rfl,Up.go⟩
 rw [if_neg h1]
 have d1:(r1==1)=false:=by simpa using h1
 by_cases h2:r1=2
 · rw [if_pos h2]
   subst h2
   cases v1
   · (unfold Gives;go_enter Tryz.func74,Tryz.ntmps74)
     go_wp2_with fail
     go_ret
     exact ⟨rfl,Up.go⟩
   · (unfold Gives;go_enter Tryz.func74,Tryz.ntmps74)
     go_wp2_with (go_at_call 45;refine (HI.out _).mono ?_;intro _)
     go_ret
     exact ⟨rfl,Up.go⟩
 · rw [if_neg h2]
   have d2:(r1==2)=false:=by simpa using h2
   clear h1 h2
   (unfold Gives;go_enter Tryz.func74,Tryz.ntmps74)
   go_wp2
   go_ret
   exact ⟨rfl,Up.go⟩
@[go_sem] theorem nil_int (a:Addr) (n c:Nat) (w:World):(binOp .eql 22 (.slice (some a) n c) (.slice none 0 0)).run Tryz.prog w=.ok (.bool false) w:=by kernel_rfl
@[go_sem] theorem nil_int0 (n c:Nat) (w:World):(binOp .eql 22 (.slice none n c) (.slice none 0 0)).run Tryz.prog w=.ok (.bool true) w:=by kernel_rfl
theorem iclone_any {K:Nat→Prop} {w:World} {a:Option Addr} {n c:Nat} {l:List Int} (hl:Lst TInt K w (.slice a n c) l) (h0:l≠[]) (hn:l.length≤100000):Calls Tryz.prog 92 #[.slice a n c] w fun e W=>∃ (g cap:Nat) (p:Ext),e=.returned (.slice (some ⟨g,0,none⟩) l.length cap)∧Own TInt 3 w.heap.size W (.slice (some ⟨g,0,none⟩) l.length cap) l∧W=ext w p:=by
 cases a with
 | none =>
  obtain ⟨_,_,h1,_,h3⟩:=hl
  simp at h1
  obtain ⟨b,o,e,_⟩:=h3 h0
  rw [← h1.1] at e
  cases e
 | some ad =>
  have HL:=hide hl
  clear hl h0
  go_enter Tryz.func92,Tryz.ntmps92
  go_wp2_with (at_builtin;with_reducible refine stopA rfl ?_)
  refine hide ?_
  refine wpList_copy elem_int rfl (.tmp 5) (.tmp 6) rfl (w0:=w) (W:=w.alloc (.cells #[] 3)) Up.go rfl (Box.mk rfl) (Nat.le_refl _) rfl (HL.out.up Up.go) hn (by decide) ?_
  intro g cap W' hu ho _
  have HE:=hide (show ∃ p,Own TInt 3 w.heap.size W' (.slice (some ⟨g,0,none⟩) l.length cap) l∧W'=ext w p from let ⟨p,hp⟩:=hu;⟨p,ho,hp⟩)
  clear hu ho
  go_wp2
  obtain ⟨p,hb,hp⟩:=HE.out
  exact bodyPost_ret (v:=.slice (some ⟨g,0,none⟩) l.length cap) (by simp [results,Tryz.results92,go_sem]) rfl ⟨_,_,p,rfl,hb,hp⟩
def mixT (T:Int→Int→VwD) (ch:List Int) (i k:Int):Bool:=decide (i=k) || !(ch.any (apartT T i k))
def cntT (T:Int→Int→VwD) (ch:List Int) (i:Int) (k:Nat):Nat:=(List.range k).countP fun (j:Nat)=>mixT T ch i j
def confT (T:Int→Int→VwD) (ch:List Int) (cn:Nat) (k:Nat):Nat:=(List.range k).foldl (fun m (i:Nat)=>max m (cntT T ch i cn)) 0
theorem cntT_succ (T:Int→Int→VwD) (ch:List Int) (i:Int) (k:Nat):cntT T ch i (k+1)=cntT T ch i k+(if mixT T ch i k=true then 1 else 0):=by
 unfold cntT
 rw [List.range_succ,List.countP_append,List.countP_cons,List.countP_nil]
 simp
theorem cntT_le (T:Int→Int→VwD) (ch:List Int) (i:Int) (k:Nat):cntT T ch i k≤k:=by
 unfold cntT
 have:=List.countP_le_length (p:=fun j:Nat=>mixT T ch i j) (l:=List.range k)
 simpa using this
theorem confT_succ (T:Int→Int→VwD) (ch:List Int) (cn k:Nat):confT T ch cn (k+1)=max (confT T ch cn k) (cntT T ch k cn):=by
 unfold confT
 rw [List.range_succ,List.foldl_append]
 rfl
theorem confT_le (T:Int→Int→VwD) (ch:List Int) (cn:Nat):∀ k,confT T ch cn k≤cn
 | 0=>Nat.zero_le _
 | k+1=>by
  rw [confT_succ]
  have:=confT_le T ch cn k
  have:=cntT_le T ch k cn
  omega
theorem wconf_any {w:World} {PB MB:Nat} {oa:Option Addr} {on oc cn:Nat} {T:Int→Int→VwD} (hP:PlanT w PB MB oa on oc cn T) {K:Nat→Prop} {ca:Option Addr} {n c:Nat} {ch:List Int} (hc:Lst TInt K w (.slice ca n c) ch) (hr:∀ o∈ch,0≤o∧o<on) :
 Gives Tryz.prog 90 #[.pointer (some ⟨PB,0,none⟩),.slice ca n c] w (.int .i64 (confT T ch cn cn)):=by
 have HC:=hide (fun (i k:Int) (i0:0≤i) (i1:i<cn) (k0:0≤k) (k1:k<cn) (W:World) (hu:Up w W) (bp bi bk:Nat) (hp:Box W bp #[.pointer (some ⟨PB,0,none⟩)] 105) (hbi:Box W bi #[.int .i64 i] 3) (hbk:Box W bk #[.int .i64 k] 3) =>
  anyint_any 133 #[.pointer (some ⟨bp,0,none⟩),.pointer (some ⟨bi,0,none⟩),.pointer (some ⟨bk,0,none⟩)] (enters_of Tryz.func133 (by kernel_rfl) rfl) (apartT T i k) (hc.up hu)
   (fun p V hpm hv=>wconf1_any (w:=w) ((hP.up hu).up hv) (hp.up hv) (hbi.up hv) (hbk.up hv) i0 i1 k0 k1 (hr p hpm).1 (hr p hpm).2))
 have HP:=hide hP
 have hn:=hP.n
 clear hP hc hr
 have q1:=HP.out.p.cell 1 rfl
 have lq:=HP.out.p.lt
 (unfold Gives;go_enter Tryz.func90,Tryz.ntmps90)
 go_wp2_with fail
 refine forgetW (fun V=>(Up w V∧Box V w.heap.size #[.pointer (some ⟨PB,0,none⟩)] 105)∧PlanT V PB MB oa on oc cn T) ⟨⟨Up.go,Box.go⟩,HP.out.up Up.go⟩ ?_
 clear q1 lq
 intro V0 h0
 have H0:=hide h0
 clear h0
 go_loopw [5,14] (fun s5 s14 wr=>∃ k:Nat,k≤cn∧s14=.int .i64 k∧s5=.int .i64 (confT T ch cn k)∧Hid ((Up w wr∧Box wr w.heap.size #[.pointer (some ⟨PB,0,none⟩)] 105)∧PlanT wr PB MB oa on oc cn T)) (fun _ s14 _=>cn - (intOf s14).toNat)
 case atStart=>exact ⟨0,by omega,rfl,rfl,H0⟩
 case round =>
  obtain ⟨k,hk,rfl,rfl,HI⟩:=hrel
  clear H0
  have hcl:=confT_le T ch cn k
  by_cases hlt:k<cn
  · have hkb:decide ((k:Int)<cn)=true:=by simp;omega
    have hkn:decide (k<cn)=true:=by simp;omega
    have p0:=HI.out.1.2.cell 0 rfl
    have lp:=HI.out.1.2.lt
    have q1:=HI.out.2.p.cell 1 rfl
    have lq:=HI.out.2.p.lt
    have HM:=hide (confT_succ T ch cn k)
    go_wp2_with fail
    obtain ⟨bi,hbi⟩:∃ g,g=wr.heap.size:=⟨_,rfl⟩
    try rw [← hbi]
    refine forgetW (fun V=>((Up w V∧Box V w.heap.size #[.pointer (some ⟨PB,0,none⟩)] 105)∧PlanT V PB MB oa on oc cn T)∧Box V bi #[.int .i64 k] 3) ⟨⟨⟨(Up.viz HI.out.1.1),HI.out.1.2.up Up.go⟩,HI.out.2.up Up.go⟩,by rw [hbi];exact Box.go⟩ ?_
    clear hbi p0 lp q1 lq HI
    intro V1 h1
    have H1:=hide h1
    clear h1
    go_loopw [7,21] (fun s7 s21 wr=>∃ j:Nat,j≤cn∧s21=.int .i64 j∧s7=.int .i64 (cntT T ch k j)∧Hid (((Up w wr∧Box wr w.heap.size #[.pointer (some ⟨PB,0,none⟩)] 105)∧PlanT wr PB MB oa on oc cn T)∧Box wr bi #[.int .i64 k] 3)) (fun _ s21 _=>cn - (intOf s21).toNat)
    case atStart=>exact ⟨0,by omega,rfl,rfl,H1⟩
    case round =>
     obtain ⟨j,hj,rfl,rfl,HJ⟩:=hrel
     clear H1
     have hcj:=cntT_le T ch k j
     by_cases hlj:j<cn
     · have hjb:decide ((j:Int)<cn)=true:=by simp;omega
       have hjn:decide (j<cn)=true:=by simp;omega
       have hsu:=cntT_succ T ch k j
       have i00:=HJ.out.2.cell 0 rfl
       have li:=HJ.out.2.lt
       by_cases hkj:k=j
       · have hb1:((k:Int)==(j:Int))=true:=by simp;omega
         have HS:=hide (show cntT T ch k (j+1)=cntT T ch k j+1 by rw [hsu,show mixT T ch k j=true by unfold mixT;rw [decide_eq_true (by omega)];rfl,if_pos rfl])
         clear hsu hkj
         go_wp2_with fail
         go_roundw
         case rel=>exact ⟨j+1,by omega,by go_num,by rw [HS.out];go_num,hide ⟨⟨⟨(Up.viz HJ.out.1.1.1),HJ.out.1.1.2.up Up.go⟩,HJ.out.1.2.up Up.go⟩,HJ.out.2.up Up.go⟩⟩
         case measure=>simp [intOf];omega
       · have hb1:((k:Int)==(j:Int))=false:=by simp;omega
         have HC2:=hide (HC.out k j (by omega) (by omega) (by omega) (by omega))
         have hmx:mixT T ch k j=!(ch.any (apartT T k j)):=by unfold mixT;rw [decide_eq_false (by omega)];rfl
         rw [hmx] at hsu
         generalize ch.any (apartT T k j)=A at HC2 hsu
         cases A
         · have HS:=hide (show cntT T ch k (j+1)=cntT T ch k j+1 by rw [hsu];rfl)
           clear hsu hkj hmx
           go_wp2_with fail
           go_at_call 134
           obtain ⟨bk,hbk⟩:∃ g,g=wr.heap.size:=⟨_,rfl⟩
           try rw [← hbk]
           refine forgetK (fun V=>(((Up w V∧Box V w.heap.size #[.pointer (some ⟨PB,0,none⟩)] 105)∧PlanT V PB MB oa on oc cn T)∧Box V bi #[.int .i64 k] 3)∧Box V bk #[.int .i64 j] 3) ⟨⟨⟨⟨(Up.viz HJ.out.1.1.1),HJ.out.1.1.2.up Up.go⟩,HJ.out.1.2.up Up.go⟩,HJ.out.2.up Up.go⟩,by rw [hbk];exact Box.go⟩ ?_
           clear hbk HJ i00 li
           intro V2 h2
           have HJ:=hide h2.1
           refine (HC2.out V2 h2.1.1.1.1 w.heap.size bi bk h2.1.1.1.2 h2.1.2 h2.2).mono ?_
           clear h2
           intro q1
           go_wp2_with fail
           go_roundw
           case rel=>exact ⟨j+1,by omega,by go_num,by rw [HS.out];go_num,hide ⟨⟨⟨(Up.viz HJ.out.1.1.1),HJ.out.1.1.2.up Up.go⟩,HJ.out.1.2.up Up.go⟩,HJ.out.2.up Up.go⟩⟩
           case measure=>simp [intOf];omega
         · have HS:=hide (show cntT T ch k (j+1)=cntT T ch k j by rw [hsu];rfl)
           clear hsu hkj hmx
           go_wp2_with fail
           go_at_call 134
           obtain ⟨bk,hbk⟩:∃ g,g=wr.heap.size:=⟨_,rfl⟩
           try rw [← hbk]
           refine forgetK (fun V=>(((Up w V∧Box V w.heap.size #[.pointer (some ⟨PB,0,none⟩)] 105)∧PlanT V PB MB oa on oc cn T)∧Box V bi #[.int .i64 k] 3)∧Box V bk #[.int .i64 j] 3) ⟨⟨⟨⟨(Up.viz HJ.out.1.1.1),HJ.out.1.1.2.up Up.go⟩,HJ.out.1.2.up Up.go⟩,HJ.out.2.up Up.go⟩,by rw [hbk];exact Box.go⟩ ?_
           clear hbk HJ i00 li
           intro V2 h2
           have HJ:=hide h2.1
           refine (HC2.out V2 h2.1.1.1.1 w.heap.size bi bk h2.1.1.1.2 h2.1.2 h2.2).mono ?_
           clear h2
           intro q1
           go_wp2_with fail
           go_roundw
           case rel=>exact ⟨j+1,by omega,by go_num,by rw [HS.out],hide ⟨⟨⟨(Up.viz HJ.out.1.1.1),HJ.out.1.1.2.up Up.go⟩,HJ.out.1.2.up Up.go⟩,HJ.out.2.up Up.go⟩⟩
           case measure=>simp [intOf];omega
     · have hjb:decide ((j:Int)<cn)=false:=by simp;omega
       have hjn:decide (j<cn)=false:=by simp;omega
       obtain rfl:j=cn:=by omega
       go_wp2_with fail
       go_roundw
       case rel=>exact ⟨k+1,by omega,by go_num,by rw [HM.out];go_num,hide HJ.out.1⟩
       case measure=>simp [intOf];omega
  · have hkb:decide ((k:Int)<cn)=false:=by simp;omega
    have hkn:decide (k<cn)=false:=by simp;omega
    obtain rfl:k=cn:=by omega
    go_wp2
    go_ret
    exact ⟨rfl,(Up.viz HI.out.1.1)⟩
def worstT (T:Int→Int→VwD) (su:Int→Bool) (cn:Nat):Nat→List Int→Nat
 | 0,ch=>confT T ch cn cn
 | f+1,ch=>(List.range ch.length).foldl (fun m i=>if su (ch.getD i 0)=true then m else max m (worstT T su cn f (ch.eraseIdx i))) (confT T ch cn cn)
def wstepT (T:Int→Int→VwD) (su:Int→Bool) (cn f:Nat) (ch:List Int) (k:Nat):Nat :=
 (List.range k).foldl (fun m i=>if su (ch.getD i 0)=true then m else max m (worstT T su cn f (ch.eraseIdx i))) (confT T ch cn cn)
theorem worstT_zero (T:Int→Int→VwD) (su:Int→Bool) (cn:Nat) (ch:List Int):worstT T su cn 0 ch=confT T ch cn cn:=rfl
theorem wstepT_zero (T:Int→Int→VwD) (su:Int→Bool) (cn f:Nat) (ch:List Int):wstepT T su cn f ch 0=confT T ch cn cn:=rfl
theorem wstepT_all (T:Int→Int→VwD) (su:Int→Bool) (cn f:Nat) (ch:List Int):worstT T su cn (f+1) ch=wstepT T su cn f ch ch.length:=rfl
theorem wstepT_succ (T:Int→Int→VwD) (su:Int→Bool) (cn f:Nat) (ch:List Int) (k:Nat):wstepT T su cn f ch (k+1)=if su (ch.getD k 0)=true then wstepT T su cn f ch k else max (wstepT T su cn f ch k) (worstT T su cn f (ch.eraseIdx k)):=by
 unfold wstepT
 rw [List.range_succ,List.foldl_append]
 rfl
theorem worstT_le (T:Int→Int→VwD) (su:Int→Bool) (cn:Nat):∀ f ch,worstT T su cn f ch≤cn
 | 0,ch=>confT_le T ch cn cn
 | f+1,ch=>by
  rw [wstepT_all]
  generalize ch.length=k
  induction k with
  | zero=>rw [wstepT_zero];exact confT_le T ch cn cn
  | succ k ih =>
   rw [wstepT_succ]
   have:=worstT_le T su cn f (ch.eraseIdx k)
   split <;> omega
attribute [irreducible] wstepT worstT
def sureO (offers:List OffD) (o:Int):Bool:=((offers[o.toNat]?).map (·.sure)).getD false
abbrev DelC:Prop:=∀ {w w1:World},Up w w1→∀ {l:List Int} {g cap:Nat},Own TInt 3 w.heap.size w1 (.slice (some ⟨g,0,none⟩) l.length cap) l→∀ {i:Nat},i<l.length →
 Calls Tryz.prog 91 #[.slice (some ⟨g,0,none⟩) l.length cap,.int .i64 i,.int .i64 (i+1:Nat)] w1 fun e W=>e=.returned (.slice (some ⟨g,0,none⟩) (l.length - 1) cap)∧Up w W∧Own TInt 3 w.heap.size W (.slice (some ⟨g,0,none⟩) (l.length - 1) cap) (l.eraseIdx i)
theorem ixs (k:Nat):Value.int .i64 ((k:Int)+1)=.int .i64 ((k+1:Nat):Int):=by rw [Int.natCast_add];rfl
theorem mxs (a b:Nat):Value.int .i64 (max (a:Int) b)=.int .i64 ((max a b:Nat):Int):=by congr 1;omega
theorem wworst_any (HD:DelC) {PB MB:Nat} {oa:Option Addr} {on oc cn:Nat} {T:Int→Int→VwD} {offers:List OffD}:∀ (f:Nat),f≤1000→∀ {w:World} {KO K:Nat→Prop} {ca:Option Addr} {n c:Nat} {ch:List Int},
 PlanT w PB MB oa on oc cn T→Lst TOff KO w (.slice oa on oc) offers→Lst TInt K w (.slice ca n c) ch→(∀ o∈ch,0≤o∧o<on)→ch.length≤1000 →
 Gives Tryz.prog 48 #[.pointer (some ⟨PB,0,none⟩),.slice ca n c,.int .i64 f] w (.int .i64 (worstT T (sureO offers) cn f ch))
 | 0,hf,w,KO,K,ca,n,c,ch,hP,hO,hc,hr,hn=>by
  have HC:=hide (wconf_any hP hc hr)
  clear hP hO hc hr
  rw [worstT_zero]
  (unfold Gives;go_enter Tryz.func48,Tryz.ntmps48)
  go_wp2_with (go_at_call 90;refine (HC.out).mono ?_;intro _)
  go_ret
  exact ⟨rfl,Up.go⟩
 | f+1,hf,w,KO,K,ca,n,c,ch,hP,hO,hc,hr,hn=>by
  obtain ⟨m0,hm0⟩:∃ m0:Nat,m0=confT T ch cn cn:=⟨_,rfl⟩
  have hm0c:m0≤cn:=by rw [hm0];exact confT_le T ch cn cn
  have HC:=hide (wconf_any hP hc hr)
  rw [← hm0] at HC
  have HR:=hide (fun (W:World) (hu:Up w W) (g cap:Nat) (l:List Int) (hL:Lst TInt (fun _=>True) W (.slice (some ⟨g,0,none⟩) l.length cap) l) (h1:∀ o∈l,0≤o∧o<on) (h2:l.length≤1000) =>
   wworst_any HD f (by omega) (hP.up hu) (hO.up hu) hL h1 h2)
  have HA:=hide (And.intro hP (And.intro hO (And.intro hc hr)))
  have hcn:=(Ints.at hc).1
  have hon:=(Offs.at hO).1
  have hct:=hP.n
  have HN:=hide (And.intro hcn (And.intro hon hn))
  have hnn:n≤1000:=by omega
  clear hP hO hc hr hcn hon hn
  rw [wstepT_all]
  obtain ⟨R,hR⟩:∃ R:Nat,R=wstepT T (sureO offers) cn f ch ch.length:=⟨_,rfl⟩
  have HS0:=hide (show m0=wstepT T (sureO offers) cn f ch 0 by rw [wstepT_zero];exact hm0)
  rw [← hR]
  have HRR:=hide hR
  clear hR hm0
  have hf0:decide (((f:Nat):Int)+1=0)=false:=by simp;omega
  have hf1:¬ (((f:Nat):Int)+1=0):=by omega
  have hf2:(((f:Nat):Int)+1==0)=false:=by simp;omega
  (unfold Gives;go_enter Tryz.func48,Tryz.ntmps48)
  go_wp2_with (go_at_call 90;refine (HC.out).mono ?_;intro _)
  go_loopw [7,18] (fun s7 s18 wr=>∃ k m:Nat,k≤n∧m≤cn∧s18=.int .i64 k∧s7=.int .i64 m∧Hid (m=wstepT T (sureO offers) cn f ch k)∧Up w wr) (fun _ s18 _=>n - (intOf s18).toNat)
  case atStart=>exact ⟨0,m0,by omega,by omega,rfl,rfl,HS0,Up.go⟩
  case round =>
   obtain ⟨k,m,hk,hmc,rfl,rfl,HM,hu⟩:=hrel
   clear HS0 hm0c
   by_cases hlt:k<n
   · have hkb:decide ((k:Int)<n)=true:=by simp;omega
     have hkn:decide (k<n)=true:=by simp;omega
     obtain ⟨b,o,p,rfl,hKb,hbw,hp,hc0⟩:=(Ints.at (HA.out.2.2.1.keeps (hu.keeps K))).2.2 k hlt
     have hpm:=HA.out.2.2.2 p (List.mem_of_getElem? hp)
     obtain ⟨q,rfl⟩:=Int.eq_ofNat_of_zero_le hpm.1
     have hqn:q<on:=by omega
     obtain ⟨b2,o2,x,rfl,hKb2,hb2w,hx,-,-,-,-,-,-,-,-,-,-,hs0⟩:=(Offs.at (HA.out.2.1.keeps (hu.keeps KO))).2.2 q hqn
     have q0:=(HA.out.1.up hu).p.cell 0 rfl
     have lq:=(HA.out.1.up hu).p.lt
     have hg:ch.getD k 0=(q:Int):=by rw [List.getD,hp];rfl
     have hsu:sureO offers (ch.getD k 0)=x.sure:=by unfold sureO;rw [hg,Int.toNat_natCast,hx];rfl
     have hst:=wstepT_succ T (sureO offers) cn f ch k
     rw [hsu] at hst
     have HU:=hide hu
     have hkl:k<ch.length:=by rw [← HN.out.1];exact hlt
     rcases hxs:x.sure with _ | _
     · rw [hxs] at hs0 hst
       rw [if_neg (by decide)] at hst
       have h0:ch≠[]:=by intro e;subst e;simp at hkl
       have HCL:=hide (iclone_any (HA.out.2.2.1.keeps (hu.keeps K)) h0 (by have:=HN.out.2.2;omega))
       obtain ⟨m1,hm1⟩:∃ m1:Nat,m1=worstT T (sureO offers) cn f (ch.eraseIdx k):=⟨_,rfl⟩
       have hm1c:m1≤cn:=by rw [hm1];exact worstT_le T (sureO offers) cn f (ch.eraseIdx k)
       have HS:=hide (show max m m1=wstepT T (sureO offers) cn f ch (k+1) by rw [hst,hm1,HM.out])
       have HM1:=hide hm1
       have HL:=hide hkl
       clear hp hx hKb hKb2 hg hsu hst hxs hkl h0 hu hpm hm1 HM
       go_wp2_with fail
       go_at_call 92
       refine HCL.out.mono ?_
       rintro _ _ ⟨g,cap,px,rfl,ho1,rfl⟩
       have HD1:=hide (HD ((Up.refl wr).ext px) ho1 HL.out)
       clear ho1
       go_wp2_with fail
       go_at_call 91
       refine (show Calls Tryz.prog 91 _ _ _ from HD1.out).mono ?_
       rintro _ W2 ⟨rfl,hu2,ho2⟩
       have hel:(ch.eraseIdx k).length=ch.length - 1:=List.length_eraseIdx_of_lt HL.out
       have HR1:=HR.out W2 (HU.out.trans hu2) g cap (ch.eraseIdx k) (by rw [hel];exact (ho2.lies (by rw [hel];have:=HN.out.2.2;omega)).mono fun _ _ _=>trivial) (fun o ho=>HA.out.2.2.2 o (List.mem_of_mem_eraseIdx ho)) (by have:=HN.out.2.2;omega)
       rw [← HM1.out,hel] at HR1
       have HR2:=hide HR1
       have HU2:=hide (HU.out.trans hu2)
       clear HR1 hel ho2 hu2 HD1 HCL
       go_wp2_with (go_at_call 48;refine (HR2.out).mono ?_;intro _)
       go_roundw
       case rel =>
        exact ⟨k+1,max m m1,by omega,by omega,ixs k,mxs m m1,HS,HU2.out.ext _⟩
       case measure=>simp [intOf];omega
     · rw [hxs] at hs0 hst
       rw [if_pos rfl] at hst
       have HS:=hide (HM.out.trans hst.symm)
       clear hp hx hKb hKb2 hg hsu hst hxs hu hpm HM
       go_wp2_with fail
       go_roundw
       case rel=>exact ⟨k+1,m,by omega,hmc,ixs k,rfl,HS,HU.out⟩
       case measure=>simp [intOf];omega
   · have hkb:decide ((k:Int)<n)=false:=by simp;omega
     obtain rfl:k=n:=by omega
     have hRm:R=m:=by rw [HRR.out,HM.out,HN.out.1]
     clear HRR HM
     go_wp2_with fail
     go_ret
     exact ⟨by rw [hRm];rfl,hu⟩
def chBad (on:Nat) (l:List Int) (i:Nat):Bool:=decide (l.getD i 0<0) || decide ((on:Int)≤l.getD i 0) || (decide (0<i)&&decide (l.getD i 0≤l.getD (i - 1) 0))
def chE (on:Nat) (l:List Int):Int:=if (List.range l.length).all fun i=>!chBad on l i then 0 else 7
theorem chE_bad {on:Nat} {l:List Int} {k:Nat} (hk:k<l.length) (h:chBad on l k=true):chE on l=7:=by
 unfold chE
 rw [if_neg]
 intro h1
 have:=List.all_eq_true.1 h1 k (List.mem_range.2 hk)
 rw [h] at this
 simp at this
theorem chE_ok {on:Nat} {l:List Int} (h:∀ i,i<l.length→chBad on l i=false):chE on l=0:=by
 unfold chE
 rw [if_pos]
 exact List.all_eq_true.2 fun i hi=>by rw [h i (List.mem_range.1 hi)];rfl
theorem wchk_any {w:World} {oa:Option Addr} {on oc:Nat} (hon:on≤1000000) {K:Nat→Prop} {a:Option Addr} {n c:Nat} {l:List Int} (hl:Lst TInt K w (.slice a n c) l) :
 Gives Tryz.prog 46 #[.slice oa on oc,.slice a n c] w (.int .i64 (chE on l)):=by
 have hn:=(Ints.at hl).1
 have hm:=(Ints.at hl).2.1
 have HF:=hide hl
 have HN:=hide hn
 clear hl hn
 (unfold Gives;go_enter Tryz.func46,Tryz.ntmps46)
 go_wp2
 go_loopw [9] (fun s9 wr=>∃ k:Nat,k≤n∧s9=.int .i64 k∧Up w wr∧Hid (∀ i,i<k→chBad on l i=false)) (fun s9 _=>n - (intOf s9).toNat)
 case atStart=>exact ⟨0,by omega,rfl,Up.refl _,hide (fun i hi=>by omega)⟩
 case round =>
  obtain ⟨k,hk,rfl,hu,hb⟩:=hrel
  by_cases hlt:k<n
  · obtain ⟨b,o,p,rfl,hKb,hbw,hp,hc0⟩:=(Ints.at (HF.out.keeps (hu.keeps K))).2.2 k hlt
    have hkb:decide ((k:Int)<n)=true:=by simp;omega
    have HP:=hide (show l.getD k 0=p by rw [List.getD,hp];rfl)
    have HU:=hide hu
    by_cases h1:p<0
    · have d1:decide (p<0)=true:=decide_eq_true h1
      have HB:=hide (chE_bad (on:=on) (HN.out▸hlt) (show chBad on l k=true by unfold chBad;rw [HP.out];simp [h1]))
      clear hp hu hKb
      go_wp2
      go_ret
      exact ⟨by rw [HB.out];rfl,HU.out⟩
    have d1:decide (p<0)=false:=decide_eq_false h1
    by_cases h2:(on:Int)≤p
    · have d2:decide ((on:Int)≤p)=true:=decide_eq_true h2
      have HB:=hide (chE_bad (on:=on) (HN.out▸hlt) (show chBad on l k=true by unfold chBad;rw [HP.out];simp [h2]))
      clear hp hu hKb
      go_wp2
      go_ret
      exact ⟨by rw [HB.out];rfl,HU.out⟩
    have d2:decide ((on:Int)≤p)=false:=decide_eq_false h2
    by_cases h3:k=0
    · have h30:¬ (0<k):=by omega
      have h31:¬ ((0:Int)<k):=by omega
      have HB:=hide (show chBad on l k=false by unfold chBad;rw [HP.out];simp [h3,h1];omega)
      clear hp hu hKb h3
      go_wp2
      refine ⟨⟨k+1,by omega,by go_num,HU.out,hide fun i hi=>?_⟩,by simp [intOf];omega⟩
      rcases Nat.lt_or_ge i k with h | h
      · exact hb.out i h
      · rw [show i=k by omega]
        exact HB.out
    have d3:decide ((0:Int)<k)=true:=decide_eq_true (by omega)
    have d3n:decide (0<k)=true:=decide_eq_true (by omega)
    have hkn:decide (k<n)=true:=decide_eq_true hlt
    obtain ⟨b',o',q,hbo,hKq,hbq,hq,hq0⟩:=(Ints.at (HF.out.keeps (hu.keeps K))).2.2 (k - 1) (by omega)
    simp at hbo
    obtain ⟨rfl,rfl⟩:=hbo
    have HQ:=hide (show l.getD (k - 1) 0=q by rw [List.getD,hq];rfl)
    have e1:((k:Int) - 1).toNat=k - 1:=by omega
    by_cases h4:p≤q
    · have d4:decide (p≤q)=true:=decide_eq_true h4
      have HB:=hide (chE_bad (on:=on) (HN.out▸hlt) (show chBad on l k=true by unfold chBad;rw [HP.out,HQ.out];simp [h4];omega))
      clear hp hu hKb hKq hq
      go_wp2
      go_ret
      exact ⟨by rw [HB.out];rfl,HU.out⟩
    · have d4:decide (p≤q)=false:=decide_eq_false h4
      have HB:=hide (show chBad on l k=false by unfold chBad;rw [HP.out,HQ.out];simp [h1,h4];omega)
      clear hp hu hKb hKq hq
      go_wp2
      refine ⟨⟨k+1,by omega,by go_num,HU.out,hide fun i hi=>?_⟩,by simp [intOf];omega⟩
      rcases Nat.lt_or_ge i k with h | h
      · exact hb.out i h
      · rw [show i=k by omega]
        exact HB.out
  · have hkb:decide ((k:Int)<n)=false:=by simp;omega
    obtain rfl:k=n:=by omega
    go_wp2
    go_ret
    exact ⟨by rw [chE_ok (by rw [← HN.out];exact hb.out)];rfl,hu⟩
def tabV (s:SkyD) (d:DriftD) (t:Int) (set:List BoxD) (offers:List OffD) (o k:Int):VwD :=
 match offers[o.toNat]? with
 | none=>(false,false,0,0)
 | some x=>match (cellsO s d t set x)[k.toNat]? with
  | none=>(false,false,0,0)
  | some b=>viewK (kndOf s x) (cellA b)
theorem rowE_at {s:SkyD} {d:DriftD} {t:Int} {set:List BoxD} {i:Nat} {o:OffD} {q:Nat} {x:Ent} (h:(rowE s d t set i o)[q]?=some x):∃ b,(cellsO s d t set o)[q]?=some b∧x=((i:Int),(q:Int),viewK (kndOf s o) (cellA b)):=by
 unfold rowE at h
 rw [List.getElem?_mapIdx] at h
 obtain ⟨b,hb,rfl⟩:=Option.map_eq_some_iff.1 h
 exact ⟨b,hb,rfl⟩
theorem tabE_mem {s:SkyD} {d:DriftD} {t:Int} {set:List BoxD} {offers:List OffD} {x:Ent} (hx:x∈tabE s d t set offers):∃ (i:Nat) (o:OffD) (q:Nat) (b:BoxD),offers[i]?=some o∧(cellsO s d t set o)[q]?=some b∧x=((i:Int),(q:Int),viewK (kndOf s o) (cellA b)):=by
 unfold tabE at hx
 obtain ⟨row,hrow,hx⟩:=List.mem_flatten.1 hx
 obtain ⟨i,hi,rfl⟩:=List.getElem_of_mem hrow
 rw [List.getElem_mapIdx] at hx
 obtain ⟨q,hq,hxq⟩:=List.getElem_of_mem hx
 obtain ⟨b,hb,e⟩:=rowE_at (x:=x) (q:=q) (by rw [List.getElem?_eq_getElem hq,hxq])
 exact ⟨i,_,q,b,List.getElem?_eq_getElem (by simpa using hi),hb,e⟩
theorem mem_tabE {s:SkyD} {d:DriftD} {t:Int} {set:List BoxD} {offers:List OffD} {i:Nat} {o:OffD} {q:Nat} {b:BoxD} (ho:offers[i]?=some o) (hb:(cellsO s d t set o)[q]?=some b):((i:Int),(q:Int),viewK (kndOf s o) (cellA b))∈tabE s d t set offers:=by
 unfold tabE
 refine List.mem_flatten.2 ⟨rowE s d t set i o,?_,?_⟩
 · exact List.mem_of_getElem? (i:=i) (by rw [List.getElem?_mapIdx,ho];rfl)
 · refine List.mem_of_getElem? (i:=q) ?_
   unfold rowE
   rw [List.getElem?_mapIdx,hb]
   rfl
theorem tabV_at {s:SkyD} {d:DriftD} {t:Int} {set:List BoxD} {offers:List OffD} {i:Nat} {o:OffD} {q:Nat} {b:BoxD} (ho:offers[i]?=some o) (hb:(cellsO s d t set o)[q]?=some b):tabV s d t set offers i q=viewK (kndOf s o) (cellA b):=by
 unfold tabV
 rw [Int.toNat_natCast,ho]
 dsimp only
 rw [Int.toNat_natCast,hb]
theorem planT_of {s:SkyD} {d:DriftD} {t:Int} {set:List BoxD} {offers:List OffD} (hW:watchE s d t set offers=0) {W:World} {PB MB:Nat} {oa:Option Addr} {on oc bn:Nat} (hb:Box W PB #[.slice oa on oc,.int .i64 bn,.map (some MB)] 143) (hm:MapV W MB (tabE s d t set offers)) (hon:on=offers.length) (hbn:bn=set.length) :
 PlanT W PB MB oa on oc bn (tabV s d t set offers):=by
 obtain ⟨_,_,⟨h1,h2⟩,h3⟩:=watchE_zero hW
 refine ⟨hb,⟨_,hm,?_,?_⟩,by omega⟩
 · intro x hx
   obtain ⟨i,o,q,b,ho,hq,rfl⟩:=tabE_mem hx
   have i1:=(List.getElem?_eq_some_iff.1 ho).1
   have q1:=(List.getElem?_eq_some_iff.1 hq).1
   have q2:=(offW_zero (h3 o (List.mem_of_getElem? ho))).2.2.2.2
   dsimp only
   unfold I64
   omega
 · intro i k i0 i1 k0 k1
   obtain ⟨i,rfl⟩:=Int.eq_ofNat_of_zero_le i0
   obtain ⟨k,rfl⟩:=Int.eq_ofNat_of_zero_le k0
   obtain ⟨o,ho⟩:∃ o,offers[i]?=some o:=⟨_,List.getElem?_eq_getElem (by omega)⟩
   have q2:=(offW_zero (h3 o (List.mem_of_getElem? ho))).2.2.2.2
   obtain ⟨b,hb⟩:∃ b,(cellsO s d t set o)[k]?=some b:=⟨_,List.getElem?_eq_getElem (by omega)⟩
   refine ⟨?_,?_⟩
   · have:=mem_tabE ho hb
     rw [← tabV_at ho hb] at this
     exact this
   · intro x hx e1 e2
     obtain ⟨i',o',q',b',ho',hq',rfl⟩:=tabE_mem hx
     dsimp only at e1 e2 ⊢
     obtain rfl:i'=i:=by omega
     obtain rfl:q'=k:=by omega
     rw [ho] at ho'
     cases ho'
     rw [hb] at hq'
     cases hq'
     rw [tabV_at ho hb]
theorem chE_two (on:Nat) (l:List Int):chE on l=0∨chE on l=7:=by
 unfold chE
 split
 · exact .inl rfl
 · exact .inr rfl
theorem chE_good {on:Nat} {l:List Int} (h:chE on l=0):∀ i,i<l.length→chBad on l i=false:=fun i hi=>by
 rcases hb:chBad on l i with _ | _
 · rfl
 · rw [chE_bad hi hb] at h;cases h
theorem chBad_no {on:Nat} {l:List Int} {i:Nat} (h:chBad on l i=false):(0≤l.getD i 0∧l.getD i 0<on)∧(0<i→l.getD (i - 1) 0<l.getD i 0):=by
 unfold chBad at h
 simp only [Bool.or_eq_false_iff,Bool.and_eq_false_iff,decide_eq_false_iff_not] at h
 omega
theorem chE_ge {on:Nat} {l:List Int} (h:chE on l=0):∀ i:Nat,i<l.length→(i:Int)≤l.getD i 0
 | 0,hi=>(chBad_no (chE_good h 0 hi)).1.1
 | i+1,hi=>by
  have h1:=chE_ge h i (by omega)
  have h2:=(chBad_no (chE_good h (i+1) hi)).2 (by omega)
  rw [Nat.add_sub_cancel] at h2
  omega
theorem chE_zero {on:Nat} {l:List Int} (h:chE on l=0):(∀ o∈l,0≤o∧o<on)∧l.length≤on:=by
 refine ⟨fun o ho=>?_,?_⟩
 · obtain ⟨i,hi,rfl⟩:=List.getElem_of_mem ho
   have:=(chBad_no (chE_good h i hi)).1
   rw [List.getD_eq_getElem?_getD,List.getElem?_eq_getElem hi] at this
   exact this
 · rcases Nat.eq_zero_or_pos l.length with h0 | h0
   · omega
   · have h1:=chE_ge h (l.length - 1) (by omega)
     have h2:=(chBad_no (chE_good h (l.length - 1) (by omega))).1.2
     omega
theorem plan_any {K:Nat→Prop} {w:World} {a sa ca:Option Addr} {n c sn sc cn cc:Nat} {s:SkyD} (hL:SkyL K w a n c sa sn sc ca cn cc s) (d:DriftD) (t:Int) {KB:Nat→Prop} {ba:Option Addr} {bn bc:Nat} {set:List BoxD} (hB:Boxes KB w (.slice ba bn bc) set) {KO:Nat→Prop} {oa:Option Addr} {on oc:Nat} {offers:List OffD} (hO:Lst TOff KO w (.slice oa on oc) offers) (hW:watchE s d t set offers=0):Calls Tryz.prog 47 #[.agg #[.slice a n c,.int .i64 s.home,.slice sa sn sc,.slice ca cn cc],.agg #[.int .i64 (d.l.1),.int .i64 (d.l.2),.int .i64 (d.h.1),.int .i64 (d.h.2),.int .i64 (d.g)],.int .i64 t,.slice ba bn bc,.slice oa on oc] w fun e W=>∃ (PB MB:Nat) (p:Ext),e=.returned (.pointer (some ⟨PB,0,none⟩))∧W=ext w p∧PlanT W PB MB oa on oc bn (tabV s d t set offers):=by
 refine (newplan_any hL d t hB hO hW).mono ?_
 rintro e W ⟨p,h1,h2,h3,h4⟩
 exact ⟨_,_,p,h1,h2,planT_of hW h3 h4 (Offs.at hO).1 (Boxes.at hB).1⟩
def worstV (s:SkyD) (d:DriftD) (t:Int) (set:List BoxD) (offers:List OffD) (ch:List Int) (f:Int):Int×Int :=
 if watchE s d t set offers=0 then
  (if withinB f 0 3=true then
   (if chE offers.length ch=0 then (((worstT (tabV s d t set offers) (sureO offers) set.length f.toNat ch:Nat):Int),0) else (0,7))
   else (0,2))
 else (0,watchE s d t set offers)
end Go.Proofs.YteafglginnonnaaGreat
