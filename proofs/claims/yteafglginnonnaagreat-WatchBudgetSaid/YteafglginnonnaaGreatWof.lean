/- Several texts in one. -/
import Derived.Test.YteafglginnonnaaGreatVO
import Derived.Test.YteafglginnonnaaGreatPush
import Derived.Test.YteafglginnonnaaGreatOwn
import Derived.Test.YteafglginnonnaaGreatOfferA
import Derived.Test.YteafglginnonnaaGreatW6b
import Derived.Test.YteafglginnonnaaGreatW6m
import Derived.Test.YteafglginnonnaaGreatWatT
/- Package watch: lists of numbers; what a plan tells apart. Conditions: what lies in memory. -/
set_option linter.unusedVariables false
set_option linter.unusedSimpArgs false
namespace Go.Proofs.YteafglginnonnaaGreat
open Go.RowKit Go.Shelf
def TInt:Rw Int:=⟨1,fun x=>[.int .i64 x],by decide,fun _=>rfl,fun _ u hu=>by simp only [List.mem_cons,List.not_mem_nil,or_false] at hu;rcases hu with rfl;rfl⟩
theorem Tryz.infoint:(Tryz.prog.info? 3).map (fun i=>(i.zero,i.size,i.bytes))=some (some (.int .i64 0),1,8):=by kernel_rfl
theorem elem_int:ElemOk Tryz.prog TInt 22 3 8:=by
 obtain ⟨i,h1,h2,h3,h4⟩:=info_parts Tryz.infoint
 exact ⟨Tryz.underlying22,i,_,h1,h2,h3,h4,rfl⟩
theorem Ints.at {K:Nat→Prop} {w:World} {a:Option Addr} {n c:Nat} {l:List Int} (h:Lst TInt K w (.slice a n c) l):n=l.length∧n≤9223372036854775807 ∧
 ∀ i,i<n→∃ b o p,a=some ⟨b,o,none⟩∧K b∧b<w.heap.size∧l[i]?=some p∧w.cell? ⟨b,o+i,none⟩=some (.int .i64 p):=by
 obtain ⟨a',c',h1,h2,h3⟩:=h
 simp at h1
 obtain ⟨rfl,rfl,rfl⟩:=h1
 refine ⟨rfl,h2,fun i hi=>?_⟩
 obtain ⟨b,o,rfl,hK,hb,hc⟩:=h3 (by intro e;subst e;simp at hi)
 obtain ⟨vs,rfl,_,hx⟩:=hc i l[i] (List.getElem?_eq_getElem hi)
 exact ⟨b,o,l[i],rfl,hK,hb,List.getElem?_eq_getElem hi,by have:=hx 0 _ rfl;rw [show TInt.k=1 from rfl,Nat.mul_one,Nat.add_zero] at this;exact this⟩
set_option maxRecDepth 100000 in
set_option maxHeartbeats 8000000 in
theorem ixint_any (g:Nat) (cap:Array Value) (eg:∀ args w,(callFunc g args).run Tryz.prog w=.ok (.enter g args) w) (F:Int→Bool) {K:Nat→Prop} {a:Option Addr} {n c:Nat} {l:List Int} {w:World} (hl:Lst TInt K w (.slice a n c) l)
 (hF:∀ p W,p∈l→Up w W→Gives Tryz.prog g (#[.int .i64 p]++cap) W (.bool (F p))) :
 Gives Tryz.prog 172 #[.slice a n c,.func (.func g) #[] cap] w (.int .i64 (firstI F l)):=by
 have hn:=(Ints.at hl).1
 have hm:=(Ints.at hl).2.1
 have HF:=hide (And.intro hF hl)
 have HN:=hide hn
 clear hF hl hn
 (unfold Gives;go_enter Tryz.func172,Tryz.ntmps172)
 go_wp2
 go_loopw [8] (fun s8 wr=>∃ k:Nat,k≤n∧s8=.int .i64 k∧Up w wr∧Hid (noneYet F l k)) (fun s8 _=>n - (intOf s8).toNat)
 case atStart=>exact ⟨0,by omega,rfl,Up.refl _,hide (fun i p hi _=>by omega)⟩
 case round =>
  obtain ⟨k,hk,rfl,hu,hb⟩:=hrel
  by_cases hlt:k<n
  · obtain ⟨b,o,p,rfl,hKb,hbw,hp,hc0⟩:=(Ints.at (HF.out.2.keeps (hu.keeps K))).2.2 k hlt
    have hkb:decide ((k:Int)<n)=true:=by simp;omega
    have HC:=hide (HF.out.1 p _ (List.mem_of_getElem? hp) hu)
    have HP:=hide hp
    have HU:=hide hu
    clear hp hu hKb
    rcases hF:F p with _ | _
    · have HS:=hide hF
      rw [hF] at HC
      clear hF
      go_wp2
      refine HC.out.mono ?_
      intro px
      go_wp2
      refine ⟨⟨k+1,by omega,by go_num,HU.out.ext _,hide (hb.out.succ HP.out HS.out)⟩,by simp [intOf];omega⟩
    · have HS:=hide hF
      rw [hF] at HC
      clear hF
      go_wp2
      refine HC.out.mono ?_
      intro px
      go_wp2
      go_ret
      exact ⟨by rw [firstI_found hb.out HP.out HS.out];rfl,HU.out.ext _⟩
  · have hkb:decide ((k:Int)<n)=false:=by simp;omega
    obtain rfl:k=n:=by omega
    go_wp2
    go_ret
    exact ⟨by rw [firstI_none (by rw [← HN.out];exact hb.out)];rfl,hu⟩
theorem anyint_any (g:Nat) (cap:Array Value) (eg:∀ args w,(callFunc g args).run Tryz.prog w=.ok (.enter g args) w) (F:Int→Bool) {K:Nat→Prop} {a:Option Addr} {n c:Nat} {l:List Int} {w:World} (hl:Lst TInt K w (.slice a n c) l)
 (hF:∀ p W,p∈l→Up w W→Gives Tryz.prog g (#[.int .i64 p]++cap) W (.bool (F p))) :
 Gives Tryz.prog 134 #[.slice a n c,.func (.func g) #[] cap] w (.bool (l.any F)):=by
 have HX:=hide (ixint_any g cap eg F hl hF)
 clear hl hF
 (unfold Gives;go_enter Tryz.func134,Tryz.ntmps134)
 go_wp2_with (go_at_call 172;refine (HX.out).mono ?_;intro _)
 go_ret
 exact ⟨ret_bool (firstI_ge F l),(by repeat (first|with_reducible (first|exact Up.refl _|apply Up.plus)|apply Up.ext|apply Up.alloc|apply Up.drew|refine Up.setCell ?_ (by simp;try omega) _))⟩
/-! ### a plan in memory: the views of on offers and cn cells -/
abbrev VwD:=Bool×Bool×Int×Int
structure PlanT (W:World) (PB MB:Nat) (oa:Option Addr) (on oc cn:Nat) (T:Int→Int→VwD):Prop where
 p:Box W PB #[.slice oa on oc,.int .i64 cn,.map (some MB)] 143
 m:∃ l,MapV W MB l∧KeyOk l∧∀ i k:Int,0≤i→i<on→0≤k→k<cn→(i,k,T i k)∈l∧∀ x∈l,x.1=i→x.2.1=k→x.2.2=T i k
 n:on≤1000∧cn≤1000
theorem PlanT.up {W V:World} {PB MB:Nat} {oa:Option Addr} {on oc cn:Nat} {T:Int→Int→VwD} (h:PlanT W PB MB oa on oc cn T) (hu:Up W V):PlanT V PB MB oa on oc cn T :=
 ⟨h.p.up hu,let ⟨l,h1,h2⟩:=h.m;⟨l,h1.up hu,h2⟩,h.n⟩
theorem PlanT.look {W:World} {PB MB:Nat} {oa:Option Addr} {on oc cn:Nat} {T:Int→Int→VwD} (h:PlanT W PB MB oa on oc cn T) {i k:Int} (i0:0≤i) (i1:i<on) (k0:0≤k) (k1:k<cn) :
 (Instr.lookup 141 (.map (some MB)) (.agg #[.int .i64 (i),.int .i64 (k)]) false).run Tryz.prog W=.ok (.agg (vwA (T i k))) W:=by
 obtain ⟨l,h1,h2,h3⟩:=h.m
 obtain ⟨h4,h5⟩:=h3 i k i0 i1 k0 k1
 have:=h.n
 exact mapv_lookup h1 h2 (by unfold I64;omega) (by unfold I64;omega) h4 h5
def apartT (T:Int→Int→VwD) (i k o:Int):Bool:=!mixedB (T o i) (T o k)
set_option maxRecDepth 100000 in
set_option maxHeartbeats 8000000 in
theorem wconf1_any {w W:World} {PB MB bp bi bk:Nat} {oa:Option Addr} {on oc cn:Nat} {T:Int→Int→VwD} (hP:PlanT W PB MB oa on oc cn T) {i k o:Int} (hp:Box W bp #[.pointer (some ⟨PB,0,none⟩)] 105) (hbi:Box W bi #[.int .i64 i] 3) (hbk:Box W bk #[.int .i64 k] 3)
 (i0:0≤i) (i1:i<cn) (k0:0≤k) (k1:k<cn) (o0:0≤o) (o1:o<on) :
 Gives Tryz.prog 133 (#[.int .i64 o]++#[.pointer (some ⟨bp,0,none⟩),.pointer (some ⟨bi,0,none⟩),.pointer (some ⟨bk,0,none⟩)]) W (.bool (apartT T i k o)):=by
 have HL1:=fun q:Ext=>(hP.up ((Up.refl W).ext q)).look o0 o1 i0 i1
 have HL2:=fun q:Ext=>(hP.up ((Up.refl W).ext q)).look o0 o1 k0 k1
 have HM:=hide (fun U=>wmixed_any (T o i) (T o k) U)
 unfold apartT
 generalize mixedB (T o i) (T o k)=M at *
 generalize T o i=A at *
 generalize T o k=B at *
 obtain ⟨A1,A2,A3,A4⟩:=A
 obtain ⟨B1,B2,B3,B4⟩:=B
 unfold viewA at HM
 unfold vwA at HL1 HL2
 dsimp only at *
 have p0:=hp.cell 0 rfl
 have lp:=hp.lt
 have i00:=hbi.cell 0 rfl
 have li:=hbi.lt
 have k00:=hbk.cell 0 rfl
 have lk:=hbk.lt
 have q0:=hP.p.cell 0 rfl
 have q1:=hP.p.cell 1 rfl
 have q2:=hP.p.cell 2 rfl
 have lq:=hP.p.lt
 clear hP hp hbi hbk i0 i1 k0 k1 o0 o1
 (unfold Gives;go_enter Tryz.func133,Tryz.ntmps133)
 go_wp2_with fail
 ((first | with_reducible refine wp_region_ext2 (by kernel_rfl) (by kernel_rfl) ?_ | refine wp_region_ext (by kernel_rfl) (by kernel_rfl) ?_);(repeat (go_big_quiet_step ((go_at_call 53;with_reducible exact Gives.inRegion (HM.out _)))));refine wpQuiet_nil ?_;intro _ hw';obtain ⟨_,hw''⟩:=hw';subst hw'')
 go_wp2
 go_ret
 exact ⟨rfl,(by repeat (first|with_reducible (first|exact Up.refl _|apply Up.plus)|apply Up.ext|apply Up.alloc|apply Up.drew|refine Up.setCell ?_ (by simp;try omega) _))⟩
end Go.Proofs.YteafglginnonnaaGreat
/- One element more at the end of a list, with all that stays; a plan behind it. Conditions: what lies in memory. -/
namespace Go.Proofs.YteafglginnonnaaGreat
open Go.RowKit Go.Shelf
section
variable {P:Program} {ops:Array Oper} {rest:List Oper} {o:Oper} {a:Act} {Q:Exit→Act→World→Prop}
theorem wpList_pushG {α:Type} {T:Rw α} {t e:TypeId} {bytes:Nat} (hE:ElemOk P T t e bytes) (hgd:o.guard=none) (s x:Operand) (ho:o.op=.call { callee:=.builtin .append,args:=#[s,x],argTypes:=#[t,t] })
 {w0 W:World} (hu:Up w0 W) {base:Nat} (hb0:w0.heap.size≤base) (hbW:base≤W.heap.size) {v:Value} {l:List α} (hs:a.eval s=v) (hown:Own T e base W v l) (hn:l.length≤100000) (hby:bytes≤1000) (p:α) {B:Nat} (hx:a.eval x=.slice (some ⟨B,0,none⟩) 1 1) (hB:Box W B (T.f p).toArray e)
 (h:∀ g cap W',Up w0 W'→Own T e base W' (.slice (some ⟨g,0,none⟩) (l.length+1) cap) (l++[p])→W.grownBy W' v.ownBlock→wpList P ops Q rest (a.put o.dst (.slice (some ⟨g,0,none⟩) (l.length+1) cap)) W'):wpList P ops Q (o::rest) a W:=by
 obtain ⟨i,z,h1,h2,h3,h4,h5⟩:=hE.info
 refine wpList_append_lies _ hgd s x t ho base e i z T.k bytes hE.under h1 h2 h3 h4 h5 T.kp v l.length (T.flat l) hs hown ⟨B,0,none⟩ 1 1 (T.f p) hx (by rw [T.fk,Nat.one_mul]) ?_ (T.one p) (by decide) (by unfold maxLen;omega) ?_ hbW _ rfl ?_
 · intro j u hu
   rw [add_plain0,Nat.zero_add]
   exact hB.cell j (by rw [List.getElem?_toArray];exact hu)
 · have:(l.length+1)*bytes≤100001*1000:=Nat.mul_le_mul (by omega) hby
   omega
 · intro g cap w' hown' hgrow hat hlt
   refine h g cap w' (.of_below (hu.below.grown hgrow hu.below.size (fun k e=>by have:=hown.lt k e;omega))) ?_ hgrow
   unfold Own
   rw [List.length_append,List.length_singleton,T.flat_snoc]
   exact hown'
end
theorem PlanT.lt {W:World} {PB MB:Nat} {oa:Option Addr} {on oc cn:Nat} {T:Int→Int→VwD} (h:PlanT W PB MB oa on oc cn T):PB<W.heap.size∧MB<W.heap.size :=
 ⟨h.p.lt,let ⟨_,h1,_⟩:=h.m;(Array.getElem?_eq_some_iff.1 h1).1⟩
theorem PlanT.grown {W V:World} {PB MB:Nat} {oa:Option Addr} {on oc cn:Nat} {T:Int→Int→VwD} (h:PlanT W PB MB oa on oc cn T) {row:Option Nat} (hg:W.grownBy V row) (h1:row≠some PB) (h2:row≠some MB):PlanT V PB MB oa on oc cn T :=
 ⟨h.p.grown hg h1,let ⟨l,h3,h4⟩:=h.m;⟨l,(hg.block MB h.lt.2 (Ne.symm h2)).trans h3,h4⟩,h.n⟩
end Go.Proofs.YteafglginnonnaaGreat
/- A watch made of numbers. Conditions: how often the ring was asked. -/
namespace Go.Proofs.YteafglginnonnaaGreat
open Go.RowKit Go.Shelf
theorem Tryz.infooff:(Tryz.prog.info? 50).map (fun i=>(i.zero,i.size,i.bytes))=some (some (.agg #[.int .i64 0,.int .i64 0,.int .i64 0,.int .i64 0,.int .i64 0,.int .i64 0,.int .i64 0,.int .i64 0,.int .i64 0,.int .i64 0,.bool false]),11,88):=by kernel_rfl
theorem elem_off:ElemOk Tryz.prog TOff 35 50 88:=by
 obtain ⟨i,h1,h2,h3,h4⟩:=info_parts Tryz.infooff
 exact ⟨Tryz.underlying35,i,_,h1,h2,h3,h4,rfl⟩
theorem SkyL.mono {K K':Nat→Prop} {w:World} {a:Option Addr} {n c:Nat} {sa:Option Addr} {sn sc:Nat} {ca:Option Addr} {cn cc:Nat} {s:SkyD} (h:SkyL K w a n c sa sn sc ca cn cc s) (hK:∀ b,b<w.heap.size→K b→K' b):SkyL K' w a n c sa sn sc ca cn cc s :=
 ⟨h.b.mono hK,h.h,Lies.mono h.st hK fun _ _ h=>h,Lies.mono h.ca hK fun _ _ h=>h⟩
structure WfZ (W:World) (B:Nat) (n:Int) (z1 z2 z3:Nat) (U:World):Prop where
 r:RingAt W B n U
 a:Box U z1 #[.slice none 0 0,.int .i64 0,.slice none 0 0,.slice none 0 0] 29
 b:Box U z2 #[.int .i64 (0),.int .i64 (0),.int .i64 (0),.int .i64 (0),.int .i64 (0)] 33
 c:Box U z3 #[.int .i64 (0),.int .i64 (0),.int .i64 (0),.int .i64 (0)] 37
theorem WfZ.grown {W:World} {B:Nat} {n m:Int} {z1 z2 z3:Nat} {U V:World} (h:WfZ W B n z1 z2 z3 U) (hr:RingAt W B m V) {row:Option Nat} (hg:U.grownBy V row) (h1:row≠some z1) (h2:row≠some z2) (h3:row≠some z3):WfZ W B m z1 z2 z3 V :=
 ⟨hr,h.a.grown hg h1,h.b.grown hg h2,h.c.grown hg h3⟩
theorem WfZ.up {W:World} {B:Nat} {n:Int} {z1 z2 z3:Nat} {U V:World} (h:WfZ W B n z1 z2 z3 U) (hu:Up U V):WfZ W B n z1 z2 z3 V:=⟨h.r.ofUp hu,h.a.up hu,h.b.up hu,h.c.up hu⟩
structure WfM (K:Nat→Prop) (a:Option Addr) (n c:Nat) (sa:Option Addr) (sn sc:Nat) (ca:Option Addr) (cn cc:Nat) (s:SkyD) (home:Int) (q1 q2 q4:Nat) (d:DriftD) (sx sy su sv:Int) (U:World):Prop where
 l:SkyL K U a n c sa sn sc ca cn cc s
 s:Box U q1 #[.slice a n c,.int .i64 home,.slice sa sn sc,.slice ca cn cc] 29
 d:Box U q2 #[.int .i64 (d.l.1),.int .i64 (d.l.2),.int .i64 (d.h.1),.int .i64 (d.h.2),.int .i64 (d.g)] 33
 x:Box U q4 #[.int .i64 (sx),.int .i64 (sy),.int .i64 (su),.int .i64 (sv)] 37
theorem WfM.grown {K:Nat→Prop} {a:Option Addr} {n c:Nat} {sa:Option Addr} {sn sc:Nat} {ca:Option Addr} {cn cc:Nat} {s:SkyD} {home:Int} {q1 q2 q4:Nat} {d:DriftD} {sx sy su sv:Int} {U V:World} (h:WfM K a n c sa sn sc ca cn cc s home q1 q2 q4 d sx sy su sv U) {row:Option Nat} (hg:U.grownBy V row) (hK:∀ b,K b→row≠some b) (h1:row≠some q1) (h2:row≠some q2) (h3:row≠some q4):WfM K a n c sa sn sc ca cn cc s home q1 q2 q4 d sx sy su sv V :=
 ⟨h.l.keeps ⟨hg.size,fun b hb hl=>hg.block b hl (fun e=>hK b hb e.symm)⟩,h.s.grown hg h1,h.d.grown hg h2,h.x.grown hg h3⟩
theorem WfM.up {K:Nat→Prop} {a:Option Addr} {n c:Nat} {sa:Option Addr} {sn sc:Nat} {ca:Option Addr} {cn cc:Nat} {s:SkyD} {home:Int} {q1 q2 q4:Nat} {d:DriftD} {sx sy su sv:Int} {U V:World} (h:WfM K a n c sa sn sc ca cn cc s home q1 q2 q4 d sx sy su sv U) (hu:Up U V):WfM K a n c sa sn sc ca cn cc s home q1 q2 q4 d sx sy su sv V:=⟨h.l.up hu,h.s.up hu,h.d.up hu,h.x.up hu⟩
def WatchMade (W:World) (B:Nat) (t:Int) (cells offs:Nat) (e:Ending) (W':World):Prop:=∃ (a:Option Addr) (n c:Nat) (sa:Option Addr) (sn sc:Nat) (ca:Option Addr) (cn cc:Nat) (s:SkyD) (d:DriftD) (ba:Option Addr) (bn bc:Nat) (set:List BoxD) (oa:Option Addr) (on oc:Nat) (offers:List OffD) (sx sy su sv:Int),
 e=.returned (.tuple #[.agg #[.slice a n c,.int .i64 s.home,.slice sa sn sc,.slice ca cn cc],.agg #[.int .i64 (d.l.1),.int .i64 (d.l.2),.int .i64 (d.h.1),.int .i64 (d.h.2),.int .i64 (d.g)],.slice ba bn bc,.slice oa on oc,.agg #[.int .i64 (sx),.int .i64 (sy),.int .i64 (su),.int .i64 (sv)]])∧RingAt W B (t+200+20*offs) W' ∧
 SkyL (fun b=>W.heap.size≤b) W' a n c sa sn sc ca cn cc s∧SmallSky s∧Boxes (fun b=>W.heap.size≤b) W' (.slice ba bn bc) set∧Lst TOff (fun b=>W.heap.size≤b) W' (.slice oa on oc) offers ∧
 (1≤set.length∧set.length≤cells)∧(∀ b∈set,BOk b)∧offers.length≤offs∧(∀ o∈offers,offE s o=0∧0≤o.tick∧o.tick≤3)∧((0≤d.l.1∧d.l.1≤d.l.2∧d.l.2≤4)∧(-3≤d.h.1∧d.h.1≤d.h.2∧d.h.2≤3)∧0≤d.g∧d.g≤2) ∧
 ((-2800≤sx∧sx≤3200)∧(-2800≤sy∧sy≤3200)∧(-60≤su∧su≤60) ∧ -60≤sv∧sv≤60)
theorem wf_end {W:World} {B:Nat} {n:Int} {z1 z2 z3:Nat} {V:World} (hz:WfZ W B n z1 z2 z3 V) {K:Nat→Prop} {a:Option Addr} {nn c:Nat} {sa:Option Addr} {sn sc:Nat} {ca:Option Addr} {cn cc:Nat} {s:SkyD} (hL:SkyL K V a nn c sa sn sc ca cn cc s) {vb vo:Value} {set:List BoxD} {offers:List OffD} (hb:Boxes K V vb set) {K2:Nat→Prop} (ho:Lst TOff K2 V vo offers)
 (n1:¬ K z1) (n2:¬ K z2) (n3:¬ K z3) (o1:¬ K2 z1) (o2:¬ K2 z2) (o3:¬ K2 z3) (w1:W.heap.size≤z1) (w2:W.heap.size≤z2) (w3:W.heap.size≤z3) (N12:z1≠z2) (N13:z1≠z3) (N23:z2≠z3) (v0 v1 v2 v3 d0 d1 d2 d3 d4 x0 x1 x2 x3:Value) :
 RingAt W B n (((((((((((((V.setCell ⟨z1,0,none⟩ v0).setCell ⟨z1,1,none⟩ v1).setCell ⟨z1,2,none⟩ v2).setCell ⟨z1,3,none⟩ v3).setCell ⟨z2,0,none⟩ d0).setCell ⟨z2,1,none⟩ d1).setCell ⟨z2,2,none⟩ d2).setCell ⟨z2,3,none⟩ d3).setCell ⟨z2,4,none⟩ d4).setCell ⟨z3,0,none⟩ x0).setCell ⟨z3,1,none⟩ x1).setCell ⟨z3,2,none⟩ x2).setCell ⟨z3,3,none⟩ x3)∧SkyL K (((((((((((((V.setCell ⟨z1,0,none⟩ v0).setCell ⟨z1,1,none⟩ v1).setCell ⟨z1,2,none⟩ v2).setCell ⟨z1,3,none⟩ v3).setCell ⟨z2,0,none⟩ d0).setCell ⟨z2,1,none⟩ d1).setCell ⟨z2,2,none⟩ d2).setCell ⟨z2,3,none⟩ d3).setCell ⟨z2,4,none⟩ d4).setCell ⟨z3,0,none⟩ x0).setCell ⟨z3,1,none⟩ x1).setCell ⟨z3,2,none⟩ x2).setCell ⟨z3,3,none⟩ x3) a nn c sa sn sc ca cn cc s∧Boxes K (((((((((((((V.setCell ⟨z1,0,none⟩ v0).setCell ⟨z1,1,none⟩ v1).setCell ⟨z1,2,none⟩ v2).setCell ⟨z1,3,none⟩ v3).setCell ⟨z2,0,none⟩ d0).setCell ⟨z2,1,none⟩ d1).setCell ⟨z2,2,none⟩ d2).setCell ⟨z2,3,none⟩ d3).setCell ⟨z2,4,none⟩ d4).setCell ⟨z3,0,none⟩ x0).setCell ⟨z3,1,none⟩ x1).setCell ⟨z3,2,none⟩ x2).setCell ⟨z3,3,none⟩ x3) vb set∧Lst TOff K2 (((((((((((((V.setCell ⟨z1,0,none⟩ v0).setCell ⟨z1,1,none⟩ v1).setCell ⟨z1,2,none⟩ v2).setCell ⟨z1,3,none⟩ v3).setCell ⟨z2,0,none⟩ d0).setCell ⟨z2,1,none⟩ d1).setCell ⟨z2,2,none⟩ d2).setCell ⟨z2,3,none⟩ d3).setCell ⟨z2,4,none⟩ d4).setCell ⟨z3,0,none⟩ x0).setCell ⟨z3,1,none⟩ x1).setCell ⟨z3,2,none⟩ x2).setCell ⟨z3,3,none⟩ x3) vo offers∧Box (((((((((((((V.setCell ⟨z1,0,none⟩ v0).setCell ⟨z1,1,none⟩ v1).setCell ⟨z1,2,none⟩ v2).setCell ⟨z1,3,none⟩ v3).setCell ⟨z2,0,none⟩ d0).setCell ⟨z2,1,none⟩ d1).setCell ⟨z2,2,none⟩ d2).setCell ⟨z2,3,none⟩ d3).setCell ⟨z2,4,none⟩ d4).setCell ⟨z3,0,none⟩ x0).setCell ⟨z3,1,none⟩ x1).setCell ⟨z3,2,none⟩ x2).setCell ⟨z3,3,none⟩ x3) z1 #[v0,v1,v2,v3] 29∧Box (((((((((((((V.setCell ⟨z1,0,none⟩ v0).setCell ⟨z1,1,none⟩ v1).setCell ⟨z1,2,none⟩ v2).setCell ⟨z1,3,none⟩ v3).setCell ⟨z2,0,none⟩ d0).setCell ⟨z2,1,none⟩ d1).setCell ⟨z2,2,none⟩ d2).setCell ⟨z2,3,none⟩ d3).setCell ⟨z2,4,none⟩ d4).setCell ⟨z3,0,none⟩ x0).setCell ⟨z3,1,none⟩ x1).setCell ⟨z3,2,none⟩ x2).setCell ⟨z3,3,none⟩ x3) z2 #[d0,d1,d2,d3,d4] 33∧Box (((((((((((((V.setCell ⟨z1,0,none⟩ v0).setCell ⟨z1,1,none⟩ v1).setCell ⟨z1,2,none⟩ v2).setCell ⟨z1,3,none⟩ v3).setCell ⟨z2,0,none⟩ d0).setCell ⟨z2,1,none⟩ d1).setCell ⟨z2,2,none⟩ d2).setCell ⟨z2,3,none⟩ d3).setCell ⟨z2,4,none⟩ d4).setCell ⟨z3,0,none⟩ x0).setCell ⟨z3,1,none⟩ x1).setCell ⟨z3,2,none⟩ x2).setCell ⟨z3,3,none⟩ x3) z3 #[x0,x1,x2,x3] 37:=by
 have hk:Keeps K V (((((((((((((V.setCell ⟨z1,0,none⟩ v0).setCell ⟨z1,1,none⟩ v1).setCell ⟨z1,2,none⟩ v2).setCell ⟨z1,3,none⟩ v3).setCell ⟨z2,0,none⟩ d0).setCell ⟨z2,1,none⟩ d1).setCell ⟨z2,2,none⟩ d2).setCell ⟨z2,3,none⟩ d3).setCell ⟨z2,4,none⟩ d4).setCell ⟨z3,0,none⟩ x0).setCell ⟨z3,1,none⟩ x1).setCell ⟨z3,2,none⟩ x2).setCell ⟨z3,3,none⟩ x3):=((((((((((((((Keeps.refl K V).set n1 0 v0).set n1 1 v1).set n1 2 v2).set n1 3 v3).set n2 0 d0).set n2 1 d1).set n2 2 d2).set n2 3 d3).set n2 4 d4).set n3 0 x0).set n3 1 x1).set n3 2 x2).set n3 3 x3)
 have hk2:Keeps K2 V (((((((((((((V.setCell ⟨z1,0,none⟩ v0).setCell ⟨z1,1,none⟩ v1).setCell ⟨z1,2,none⟩ v2).setCell ⟨z1,3,none⟩ v3).setCell ⟨z2,0,none⟩ d0).setCell ⟨z2,1,none⟩ d1).setCell ⟨z2,2,none⟩ d2).setCell ⟨z2,3,none⟩ d3).setCell ⟨z2,4,none⟩ d4).setCell ⟨z3,0,none⟩ x0).setCell ⟨z3,1,none⟩ x1).setCell ⟨z3,2,none⟩ x2).setCell ⟨z3,3,none⟩ x3):=((((((((((((((Keeps.refl K2 V).set o1 0 v0).set o1 1 v1).set o1 2 v2).set o1 3 v3).set o2 0 d0).set o2 1 d1).set o2 2 d2).set o2 3 d3).set o2 4 d4).set o3 0 x0).set o3 1 x1).set o3 2 x2).set o3 3 x3)
 refine ⟨(((((((((((((hz.r.set w1 0 v0).set w1 1 v1).set w1 2 v2).set w1 3 v3).set w2 0 d0).set w2 1 d1).set w2 2 d2).set w2 3 d3).set w2 4 d4).set w3 0 x0).set w3 1 x1).set w3 2 x2).set w3 3 x3),hL.keeps hk,hb.keeps hk,ho.keeps hk2,?_,?_,?_⟩
 · simpa using (((((((((((((hz.a.set 0 v0).set 1 v1).set 2 v2).set 3 v3).other N12 0 d0).other N12 1 d1).other N12 2 d2).other N12 3 d3).other N12 4 d4).other N13 0 x0).other N13 1 x1).other N13 2 x2).other N13 3 x3)
 · simpa using (((((((((((((hz.b.other (Ne.symm N12) 0 v0).other (Ne.symm N12) 1 v1).other (Ne.symm N12) 2 v2).other (Ne.symm N12) 3 v3).set 0 d0).set 1 d1).set 2 d2).set 3 d3).set 4 d4).other N23 0 x0).other N23 1 x1).other N23 2 x2).other N23 3 x3)
 · simpa using (((((((((((((hz.c.other (Ne.symm N13) 0 v0).other (Ne.symm N13) 1 v1).other (Ne.symm N13) 2 v2).other (Ne.symm N13) 3 v3).other (Ne.symm N23) 0 d0).other (Ne.symm N23) 1 d1).other (Ne.symm N23) 2 d2).other (Ne.symm N23) 3 d3).other (Ne.symm N23) 4 d4).set 0 x0).set 1 x1).set 2 x2).set 3 x3)
set_option maxRecDepth 100000 in
set_option maxHeartbeats 40000000 in
theorem watchof_any {w:World} {sl:Value} (hN:Nums w sl) {B:Nat} (hB:w.heap.size≤B) {cells offs:Nat} (hc1:1≤cells) (hc2:cells≤500) (ho:offs≤100) (t:Int) (W:World) (hu:Up w W) (hb:Box W B #[sl,.int .i64 t] 98) (t0:0≤t) (t1:t+5000≤100000) :
 Calls Tryz.prog 8 #[.pointer (some ⟨B,0,none⟩),.int .i64 cells,.int .i64 offs] W (WatchMade W B t cells offs):=by
 have KN:=hide (fun (m:Int) (m0:1≤m) (m1:m≤9223372036854775807) n V (hV:RingAt W B n V) (hn:n+1≤100000)=>(next_r hN hB m0 m1).at hu hb hB hV hn)
 have KG:=hide (fun n V (hV:RingAt W B n V) (hn:n+5≤100000)=>(gasof_r hN hB).at hu hb hB hV hn)
 have KB:=hide (fun n V (hV:RingAt W B n V) (hn:n+9≤100000)=>(boxof_r hN hB).at hu hb hB hV hn)
 have KS:=hide (fun (b:BoxD) (hbk:BOk b) n V (hV:RingAt W B n V) (hn:n+8≤100000)=>(statein_r hN hB hbk).at hu hb hB hV hn)
 have KY:=hide (fun n V (hV:RingAt W B n V) (hn:n+60≤100000)=>skyof_at hN hB hu hb hV hn)
 have KO:=hide (And.intro hN (And.intro hB (And.intro hu hb)))
 have HR:=hide (RingAt.start (n:=t) hb t0 (by omega))
 have lB:=hb.lt
 clear hN hB hu hb
 obtain ⟨z1,hz1⟩:∃ b,b=W.heap.size:=⟨_,rfl⟩
 obtain ⟨z2,hz2⟩:∃ b,b=W.heap.size+1:=⟨_,rfl⟩
 obtain ⟨z3,hz3⟩:∃ b,b=W.heap.size+1+1:=⟨_,rfl⟩
 go_enter Tryz.func8,Tryz.ntmps8
 go_wp2_with fail
 go_at_call 36
 rw [← hz3,← hz2,← hz1]
 refine forgetC (fun U=>WfZ W B t z1 z2 z3 U∧z3<U.heap.size) ⟨⟨((HR.out.alloc _).alloc _).alloc _,by rw [hz1];exact (by repeat (first|exact Box.mk rfl|(refine Box.mk ?_;simp;done)|apply Box.ext|apply Box.drew|apply Box.alloc|apply Box.two1|refine Box.other ?_ (by omega) _ _)),by rw [hz2];exact (by repeat (first|exact Box.mk rfl|(refine Box.mk ?_;simp;done)|apply Box.ext|apply Box.drew|apply Box.alloc|apply Box.two1|refine Box.other ?_ (by omega) _ _)),by rw [hz3];exact (by repeat (first|exact Box.mk rfl|(refine Box.mk ?_;simp;done)|apply Box.ext|apply Box.drew|apply Box.alloc|apply Box.two1|refine Box.other ?_ (by omega) _ _))⟩,by rw [hz3];simp⟩ ?_
 have N1:z1≠B:=by omega
 have N2:z2≠B:=by omega
 have N3:z3≠B:=by omega
 have N12:z1≠z2:=by omega
 have N13:z1≠z3:=by omega
 have N23:z2≠z3:=by omega
 have Wz1:W.heap.size≤z1:=by omega
 have Wz2:W.heap.size≤z2:=by omega
 have Wz3:W.heap.size≤z3:=by omega
 have z12:z1<z2:=by omega
 have z23:z2<z3:=by omega
 clear hz1 hz2 hz3 HR
 rintro V0 ⟨h0,z3V⟩
 obtain ⟨m0,hm0⟩:∃ m,m=V0.heap.size:=⟨_,rfl⟩
 have hBm:B<m0:=by have:=h0.r.size;omega
 refine (KY.out t _ h0.r (by omega)).mono ?_
 rintro _ V1 ⟨_,s,rfl,hsky,hsm,hR1,hg1⟩
 obtain ⟨a,n,c,sa,sn,sc,ca,cn,cc,rfl,hL,hsn,hcn⟩:=hsky.form
 rw [← hm0] at hL
 have hn1:0<sn:=by have:=hsm.stn;omega
 have hn2:0<cn:=by have:=hsm.can;omega
 have HSM:=hide (And.intro hsm (And.intro hn1 hn2))
 have H1:=hide (And.intro (h0.grown hR1 hg1 (by simp;omega) (by simp;omega) (by simp;omega)) (And.intro hL (show m0≤V1.heap.size by have:=hg1.size;omega)))
 rw [← hm0] at z3V
 clear h0 hsky hsm hR1 hg1 hL hsn hcn hm0 hn1 hn2 KY
 generalize hhome:s.home=home at *
 go_wp2_with fail
 go_at_call 37
 refine (KG.out _ _ H1.out.1.r (by omega)).mono ?_
 rintro _ V2 ⟨_,rfl,⟨l1,l2,h1,h2,g,hd1,hd2,hd3,rfl⟩,hR,hg⟩
 have H2:=hide (And.intro (H1.out.1.grown hR hg (by simp;omega) (by simp;omega) (by simp;omega)) (And.intro (show SkyL (fun b=>m0≤b) V2 a n c sa sn sc ca cn cc s from H1.out.2.1.keeps (Keeps.grown hg (fun b hb=>by omega))) (show m0≤V2.heap.size by have:=hg.size;have:=H1.out.2.2;omega)))
 clear hR hg H1
 go_wp2_with fail
 go_at_call 38
 refine (KB.out _ _ H2.out.1.r (by omega)).mono ?_
 rintro _ V3 ⟨_,rfl,⟨b,hbx,hby,hbu,hbv,rfl⟩,hR,hg⟩
 have hbk:BOk b:=⟨⟨by omega,by omega,by omega⟩,⟨by omega,by omega,by omega⟩,⟨by omega,by omega,by omega⟩,⟨by omega,by omega,by omega⟩⟩
 have H3:=hide (And.intro (H2.out.1.grown hR hg (by simp;omega) (by simp;omega) (by simp;omega)) (And.intro (show SkyL (fun b=>m0≤b) V3 a n c sa sn sc ca cn cc s from H2.out.2.1.keeps (Keeps.grown hg (fun b hb=>by omega))) (show m0≤V3.heap.size by have:=hg.size;have:=H2.out.2.2;omega)))
 have HDD:=hide (And.intro hd1 (And.intro hd2 hd3))
 have KSb:=hide (KS.out b hbk)
 have HBB:=hide (And.intro hbk (And.intro hbx (And.intro hby (And.intro hbu hbv))))
 have KCb:=hide (fun (m:Nat) (m0:1≤m) (m1:m≤512) W=>kcells_any hbk m0 m1 W)
 clear hR hg H2 hd1 hd2 hd3 hbk hbx hby hbu hbv KS KG KB
 obtain ⟨x0,x1,y0,y1,u0,u1,v0,v1⟩:=b
 unfold boxA at KSb KCb ⊢
 dsimp only at KSb KCb HBB ⊢
 go_wp2_with fail
 go_at_call 39
 obtain ⟨q1,hq1⟩:∃ b,b=V3.heap.size:=⟨_,rfl⟩
 obtain ⟨q2,hq2⟩:∃ b,b=V3.heap.size+1:=⟨_,rfl⟩
 obtain ⟨q3,hq3⟩:∃ b,b=V3.heap.size+1+1:=⟨_,rfl⟩
 rw [← hq3,← hq2,← hq1]
 refine forgetC (fun U=>WfZ W B (t+60+5+9) z1 z2 z3 U∧SkyL (fun b=>m0≤b) U a n c sa sn sc ca cn cc s∧Box U q1 #[.slice a n c,.int .i64 home,.slice sa sn sc,.slice ca cn cc] 29∧Box U q2 #[.int .i64 (l1),.int .i64 (l2),.int .i64 (h1),.int .i64 (h2),.int .i64 (g)] 33∧Box U q3 #[.int .i64 (x0),.int .i64 (x1),.int .i64 (y0),.int .i64 (y1),.int .i64 (u0),.int .i64 (u1),.int .i64 (v0),.int .i64 (v1)] 69) ⟨H3.out.1.up (by repeat (first|with_reducible (first|exact Up.refl _|apply Up.plus)|apply Up.ext|apply Up.alloc|apply Up.drew|refine Up.setCell ?_ (by simp;try omega) _)),H3.out.2.1.up (by repeat (first|with_reducible (first|exact Up.refl _|apply Up.plus)|apply Up.ext|apply Up.alloc|apply Up.drew|refine Up.setCell ?_ (by simp;try omega) _)),by rw [hq1];exact (by repeat (first|exact Box.mk rfl|(refine Box.mk ?_;simp;done)|apply Box.ext|apply Box.drew|apply Box.alloc|apply Box.two1|refine Box.other ?_ (by omega) _ _)),by rw [hq2];exact (by repeat (first|exact Box.mk rfl|(refine Box.mk ?_;simp;done)|apply Box.ext|apply Box.drew|apply Box.alloc|apply Box.two1|refine Box.other ?_ (by omega) _ _)),by rw [hq3];exact (by repeat (first|exact Box.mk rfl|(refine Box.mk ?_;simp;done)|apply Box.ext|apply Box.drew|apply Box.alloc|apply Box.two1|refine Box.other ?_ (by omega) _ _))⟩ ?_
 have qm1:m0≤q1:=by have:=H3.out.2.2;omega
 have q12:q1<q2:=by omega
 have q23:q2<q3:=by omega
 clear hq1 hq2 hq3 H3
 rintro V4 ⟨e1,e2,e3,e4,e5⟩
 refine (KSb.out _ _ e1.r (by omega)).mono ?_
 rintro _ V5 ⟨_,rfl,⟨sx,sy,su,sv,hsx,hsy,hsu,hsv,rfl⟩,hR,hg⟩
 have H5:=hide (And.intro (e1.grown hR hg (by simp;omega) (by simp;omega) (by simp;omega)) (And.intro (show SkyL (fun b=>m0≤b) V5 a n c sa sn sc ca cn cc s from e2.keeps (Keeps.grown hg (fun b hb=>by omega))) (And.intro (e3.grown hg (by simp;omega)) (And.intro (e4.grown hg (by simp;omega)) (e5.grown hg (by simp;omega))))))
 have HSX:=hide (show (-2800≤sx∧sx≤3200)∧(-2800≤sy∧sy≤3200)∧(-60≤su∧su≤60) ∧ -60≤sv∧sv≤60 from by have h:=HBB.out;dsimp only at h hsx hsy hsu hsv;omega)
 clear hR hg e1 e2 e3 e4 e5 KSb hsx hsy hsu hsv HBB
 go_wp2_with fail
 obtain ⟨q4,hq4⟩:∃ b,b=V5.heap.size:=⟨_,rfl⟩
 rw [← hq4]
 refine forgetW (fun U=>WfZ W B (t+60+5+9+8) z1 z2 z3 U∧(SkyL (fun b=>m0≤b) U a n c sa sn sc ca cn cc s∧Box U q1 #[.slice a n c,.int .i64 home,.slice sa sn sc,.slice ca cn cc] 29∧Box U q2 #[.int .i64 (l1),.int .i64 (l2),.int .i64 (h1),.int .i64 (h2),.int .i64 (g)] 33∧Box U q4 #[.int .i64 (sx),.int .i64 (sy),.int .i64 (su),.int .i64 (sv)] 37)∧Box U q3 #[.int .i64 (x0),.int .i64 (x1),.int .i64 (y0),.int .i64 (y1),.int .i64 (u0),.int .i64 (u1),.int .i64 (v0),.int .i64 (v1)] 69) ⟨H5.out.1.up (by repeat (first|with_reducible (first|exact Up.refl _|apply Up.plus)|apply Up.ext|apply Up.alloc|apply Up.drew|refine Up.setCell ?_ (by simp;try omega) _)),⟨H5.out.2.1.up (by repeat (first|with_reducible (first|exact Up.refl _|apply Up.plus)|apply Up.ext|apply Up.alloc|apply Up.drew|refine Up.setCell ?_ (by simp;try omega) _)),H5.out.2.2.1.up (by repeat (first|with_reducible (first|exact Up.refl _|apply Up.plus)|apply Up.ext|apply Up.alloc|apply Up.drew|refine Up.setCell ?_ (by simp;try omega) _)),H5.out.2.2.2.1.up (by repeat (first|with_reducible (first|exact Up.refl _|apply Up.plus)|apply Up.ext|apply Up.alloc|apply Up.drew|refine Up.setCell ?_ (by simp;try omega) _)),by rw [hq4];exact (by repeat (first|exact Box.mk rfl|(refine Box.mk ?_;simp;done)|apply Box.ext|apply Box.drew|apply Box.alloc|apply Box.two1|refine Box.other ?_ (by omega) _ _))⟩,H5.out.2.2.2.2.up (by repeat (first|with_reducible (first|exact Up.refl _|apply Up.plus)|apply Up.ext|apply Up.alloc|apply Up.drew|refine Up.setCell ?_ (by simp;try omega) _))⟩ ?_
 have q34:q3<q4:=by have:=H5.out.2.2.2.2.lt;omega
 clear hq4 H5
 intro V6 h6
 have H6:=hide h6
 clear h6
 have NB1:q1≠B:=by omega
 have NB2:q2≠B:=by omega
 have NB3:q3≠B:=by omega
 have NB4:q4≠B:=by omega
 have hS0:=hide (show Box V6.drew q3 #[.int .i64 (x0),.int .i64 (x1),.int .i64 (y0),.int .i64 (y1),.int .i64 (u0),.int .i64 (u1),.int .i64 (v0),.int .i64 (v1)] 69 from H6.out.2.2.drew)
 refine wp_region_L (fun W'=>Box W' q3 #[.int .i64 (x0),.int .i64 (x1),.int .i64 (y0),.int .i64 (y1),.int .i64 (u0),.int .i64 (u1),.int .i64 (v0),.int .i64 (v1)] 69) 6 (by kernel_rfl) ?_
 refine anyL_take 0 (v:=(.agg #[.int .i64 (x0),.int .i64 (x1),.int .i64 (y0),.int .i64 (y1),.int .i64 (u0),.int .i64 (u1),.int .i64 (v0),.int .i64 (v1)])) rfl (by kernel_rfl) (fun _ _ _ h=>h) (.inl ⟨rfl,fun W' hW'=>by have e0:=Box.cell hW' 0 rfl;have e1:=Box.cell hW' 1 rfl;have e2:=Box.cell hW' 2 rfl;have e3:=Box.cell hW' 3 rfl;have e4:=Box.cell hW' 4 rfl;have e5:=Box.cell hW' 5 rfl;have e6:=Box.cell hW' 6 rfl;have e7:=Box.cell hW' 7 rfl;simp [go_sem,e0,e1,e2,e3,e4,e5,e6,e7]⟩) hS0.out ?_
 simp only [Act.put,List.setIfInBounds_toArray,List.set_cons_zero,List.set_cons_succ]
 refine anyL_take 1 (v:=(.pointer (some ⟨B,0,none⟩))) rfl (by kernel_rfl) (fun _ _ _ h=>h) (.inl ⟨rfl,fun W' hW'=>by simp [go_sem]⟩) hS0.out ?_
 simp only [Act.put,List.setIfInBounds_toArray,List.set_cons_zero,List.set_cons_succ]
 refine anyL_take 2 (v:=(.int .i64 cells)) rfl (by kernel_rfl) (fun _ _ _ h=>h) (.inl ⟨rfl,fun W' hW'=>by simp [go_sem]⟩) hS0.out ?_
 simp only [Act.put,List.setIfInBounds_toArray,List.set_cons_zero,List.set_cons_succ]
 refine anyL_one (i:=3) (by kernel_rfl) rfl (fun K HK=>?_)
 go_wp2_with fail
 go_at_call 34
 refine (KN.out cells (by omega) (by omega) _ _ H6.out.1.r.drew (by omega)).mono ?_
 rintro _ V7 ⟨_,rfl,⟨k,k0,k1,rfl⟩,hR,hg⟩
 obtain ⟨kk,rfl⟩:=Int.eq_ofNat_of_zero_le k0
 have hkk:1+kk≤cells:=by omega
 have H7:=hide (And.intro ((H6.out.1.up (Up.refl _).drew).grown hR hg (by simp;omega) (by simp;omega) (by simp;omega)) (And.intro (show SkyL (fun b=>m0≤b) V7 a n c sa sn sc ca cn cc s∧Box V7 q1 #[.slice a n c,.int .i64 home,.slice sa sn sc,.slice ca cn cc] 29∧Box V7 q2 #[.int .i64 (l1),.int .i64 (l2),.int .i64 (h1),.int .i64 (h2),.int .i64 (g)] 33∧Box V7 q4 #[.int .i64 (sx),.int .i64 (sy),.int .i64 (su),.int .i64 (sv)] 37 from ⟨(H6.out.2.1.1.up (Up.refl _).drew).keeps (Keeps.grown hg (fun b hb=>by omega)),H6.out.2.1.2.1.drew.grown hg (by simp;omega),H6.out.2.1.2.2.1.drew.grown hg (by simp;omega),H6.out.2.1.2.2.2.drew.grown hg (by simp;omega)⟩) (H6.out.2.2.drew.grown hg (by simp;omega))))
 clear hR hg hS0 H6 k0 k1
 go_wp2_with fail
 refine HK.out _ _ (fun _=>H7.out.2.2) ?_
 clear HK
 refine anyL_one (i:=4) (by kernel_rfl) rfl (fun K HK=>?_)
 go_wp2_with fail
 refine HK.out _ _ (fun _=>H7.out.2.2) ?_
 clear HK
 refine anyL_one (i:=5) (by kernel_rfl) rfl (fun K HK=>?_)
 go_wp2_with fail
 go_at_call 40
 rw [show (1:Int)+(kk:Int)=((1+kk:Nat):Int) from by omega]
 refine (KCb.out (1+kk) (by omega) (by omega) _).mono ?_
 rintro _ _ ⟨ba,bn,bc,set,p8,rfl,hbs,hbl,hbo,rfl⟩
 have hz7:m0≤V7.heap.size:=by have:=H7.out.2.1.2.1.lt;omega
 have H8:=hide (And.intro (H7.out.1.up ((Up.refl _).ext p8)) (And.intro (show SkyL (fun b=>m0≤b) (ext V7 p8) a n c sa sn sc ca cn cc s∧Box (ext V7 p8) q1 #[.slice a n c,.int .i64 home,.slice sa sn sc,.slice ca cn cc] 29∧Box (ext V7 p8) q2 #[.int .i64 (l1),.int .i64 (l2),.int .i64 (h1),.int .i64 (h2),.int .i64 (g)] 33∧Box (ext V7 p8) q4 #[.int .i64 (sx),.int .i64 (sy),.int .i64 (su),.int .i64 (sv)] 37 from ⟨H7.out.2.1.1.up ((Up.refl _).ext p8),H7.out.2.1.2.1.ext p8,H7.out.2.1.2.2.1.ext p8,H7.out.2.1.2.2.2.ext p8⟩) (And.intro (show Boxes (fun b=>m0≤b) (ext V7 p8) (.slice ba bn bc) set from hbs.mono (fun b _ hb=>Nat.le_trans hz7 hb)) (H7.out.2.2.ext p8))))
 have HSET:=hide (And.intro (And.intro hbl.1 (Nat.le_trans hbl.2 hkk)) hbo)
 clear hbs hbl hbo hz7 H7 KCb hkk
 go_wp2_with fail
 refine HK.out _ _ (fun _=>H8.out.2.2.2) ?_
 clear HK
 refine anyL_one (i:=6) (by kernel_rfl) rfl (fun K HK=>?_)
 go_wp2_with fail
 refine HK.out _ _ (fun h=>(h rfl).elim) ?_
 clear HK
 refine anyL_done (by kernel_rfl) ?_
 go_wp2_with fail
 go_at_call 34
 refine (KN.out (offs+1) (by omega) (by omega) _ _ H8.out.1.r (by omega)).mono ?_
 rintro _ V9 ⟨_,rfl,⟨j,j0,j1,rfl⟩,hR,hg⟩
 obtain ⟨jj,rfl⟩:=Int.eq_ofNat_of_zero_le j0
 have hjj:jj≤offs:=by omega
 obtain ⟨Z,hZ⟩:∃ Z,Z=V9.heap.size:=⟨_,rfl⟩
 have hq4Z:q4<Z:=by have:=H8.out.2.1.2.2.2.lt;have:=hg.size;omega
 have H9:=hide (And.intro (H8.out.1.grown hR hg (by simp;omega) (by simp;omega) (by simp;omega)) (And.intro (show WfM (fun b=>m0≤b∧b<Z) a n c sa sn sc ca cn cc s home q1 q2 q4 ⟨(l1,l2),(h1,h2),g⟩ sx sy su sv V9 from
  ⟨(H8.out.2.1.1.keeps (Keeps.grown hg (fun b hb=>by omega))).mono (fun b hl hb=>by omega),H8.out.2.1.2.1.grown hg (by simp;omega),H8.out.2.1.2.2.1.grown hg (by simp;omega),H8.out.2.1.2.2.2.grown hg (by simp;omega)⟩) (And.intro (show Boxes (fun b=>m0≤b∧b<Z) V9 (.slice ba bn bc) set from (H8.out.2.2.1.keeps (Keeps.grown hg (fun b hb=>by omega))).mono (fun b hl hb=>by omega)) (And.intro (Own.nil TOff 50 Z V9) (Nat.le_of_eq hZ)))))
 clear hR hg H8 j0 j1 hZ
 go_wp2_with fail
 go_loopw [16,17] (fun s16 s17 wr=>∃ (k:Nat) (lo:List OffD),k≤offs∧lo.length+k≤offs∧s17=.int .i64 k∧Hid (WfZ W B (t+60+5+9+8+1+1+16*(offs - k)) z1 z2 z3 wr∧WfM (fun b=>m0≤b∧b<Z) a n c sa sn sc ca cn cc s home q1 q2 q4 ⟨(l1,l2),(h1,h2),g⟩ sx sy su sv wr∧Boxes (fun b=>m0≤b∧b<Z) wr (.slice ba bn bc) set∧Own TOff 50 Z wr s16 lo∧Z≤wr.heap.size)∧Hid (∀ o∈lo,offE s o=0∧0≤o.tick∧o.tick≤3)) (fun _ s17 _=>(intOf s17).toNat)
 case atStart=>exact ⟨jj,[],hjj,by simpa using hjj,rfl,hide ⟨⟨H9.out.1.r.mono (by omega),H9.out.1.a,H9.out.1.b,H9.out.1.c⟩,H9.out.2⟩,hide (fun o ho=>by cases ho)⟩
 case round =>
  obtain ⟨k,lo,hk,hlk,rfl,HI,HLO⟩:=hrel
  clear H9
  by_cases hlt:0<k
  · obtain ⟨k',rfl⟩:∃ k',k=k'+1:=⟨k - 1,by omega⟩
    have hkb:decide ((0:Int)<((k'+1:Nat):Int))=true:=decide_eq_true (by omega)
    have hkn:decide (0<k'+1)=true:=decide_eq_true (by omega)
    have hkm:decide ((0:Int)<(k':Int)+1)=true:=decide_eq_true (by omega)
    go_wp2_with fail
    go_at_call 34
    refine (KN.out 4 (by omega) (by omega) _ _ HI.out.1.r (by omega)).mono ?_
    rintro _ V10 ⟨_,rfl,⟨tk,tk0,tk1,rfl⟩,hR,hg⟩
    have hnB:∀ q,u16.ownBlock=some q→q≠B:=fun q hq=>by have:=HI.out.2.2.2.1.lt q hq;omega
    have H10:=hide (And.intro (HI.out.1.grown hR hg (by simp;omega) (by simp;omega) (by simp;omega)) (And.intro (HI.out.2.1.grown hg (by intro b hb;simp;omega) (by simp;omega) (by simp;omega) (by simp;omega)) (And.intro (show Boxes (fun b=>m0≤b∧b<Z) V10 (.slice ba bn bc) set from HI.out.2.2.1.keeps (Keeps.grown hg (fun b hb=>by omega))) (And.intro (show Own TOff 50 Z V10 u16 lo from ownsRow_keeps (K:=fun q=>u16.ownBlock=some q) HI.out.2.2.2.1 (Keeps.grown hg hnB) fun _ e=>e) (Nat.le_trans HI.out.2.2.2.2 hg.size)))))
    clear hR hg hnB HI
    obtain ⟨mu,hmu,mu0,mu1⟩:∃ mu,tk*su=mu ∧ -180≤mu∧mu≤180:=⟨_,rfl,by
     have hs:=HSX.out
     have e:tk=0∨tk=1∨tk=2∨tk=3:=by omega
     rcases e with rfl | rfl | rfl | rfl <;> omega⟩
    obtain ⟨mv,hmv,mv0,mv1⟩:∃ mv,tk*sv=mv ∧ -180≤mv∧mv≤180:=⟨_,rfl,by
     have hs:=HSX.out
     have e:tk=0∨tk=1∨tk=2∨tk=3:=by omega
     rcases e with rfl | rfl | rfl | rfl <;> omega⟩
    have hsx:=HSX.out.1
    have hsy:=HSX.out.2.1
    have aa0:=(H10.out.2.1.s).cell 0 rfl
    have aa1:=(H10.out.2.1.s).cell 1 rfl
    have aa2:=(H10.out.2.1.s).cell 2 rfl
    have aa3:=(H10.out.2.1.s).cell 3 rfl
    have laa:=(H10.out.2.1.s).lt
    have fzaa0:=(H10.out.2.1.s).frozen 0
    have fzaa1:=(H10.out.2.1.s).frozen 1
    have fzaa2:=(H10.out.2.1.s).frozen 2
    have fzaa3:=(H10.out.2.1.s).frozen 3
    have xx0:=(H10.out.2.1.x).cell 0 rfl
    have xx1:=(H10.out.2.1.x).cell 1 rfl
    have xx2:=(H10.out.2.1.x).cell 2 rfl
    have xx3:=(H10.out.2.1.x).cell 3 rfl
    have lxx:=(H10.out.2.1.x).lt
    have fzxx0:=(H10.out.2.1.x).frozen 0
    have fzxx1:=(H10.out.2.1.x).frozen 1
    have fzxx2:=(H10.out.2.1.x).frozen 2
    have fzxx3:=(H10.out.2.1.x).frozen 3
    go_wp2_with fail
    go_at_call 41
    rw [← hhome]
    refine (offerof_at KO.out.1 (B:=B) KO.out.2.1 (K:=fun b=>m0≤b∧b<Z) (fun b hb=>by omega) HSM.out.1.valid HSM.out.2.1 HSM.out.2.2 (tick:=tk) ⟨tk0,by omega⟩ (px:=sx+mu) (py:=sy+mv) ⟨⟨by omega,by omega⟩,by omega,by omega⟩ KO.out.2.2.1 KO.out.2.2.2 H10.out.1.r H10.out.2.1.l (by omega)).mono ?_
    rintro _ V11 ⟨_,rfl,⟨o,hoe,hot,hof,rfl⟩,hR,hg⟩
    have hnB:∀ q,u16.ownBlock=some q→q≠B:=fun q hq=>by have:=H10.out.2.2.2.1.lt q hq;omega
    have H11:=hide (And.intro (H10.out.1.grown hR hg (by simp;omega) (by simp;omega) (by simp;omega)) (And.intro (H10.out.2.1.grown hg (by intro b hb;simp;omega) (by simp;omega) (by simp;omega) (by simp;omega)) (And.intro (show Boxes (fun b=>m0≤b∧b<Z) V11 (.slice ba bn bc) set from H10.out.2.2.1.keeps (Keeps.grown hg (fun b hb=>by omega))) (And.intro (show Own TOff 50 Z V11 u16 lo from ownsRow_keeps (K:=fun q=>u16.ownBlock=some q) H10.out.2.2.2.1 (Keeps.grown hg hnB) fun _ e=>e) (Nat.le_trans H10.out.2.2.2.2 hg.size)))))
    have HOO:=hide (show offE s o=0∧0≤o.tick∧o.tick≤3 from ⟨hoe,by omega,by omega⟩)
    have HUW:=hide (hR.up KO.out.2.2.1 KO.out.2.1)
    clear hR hg hnB H10 hoe hot hof aa0 aa1 aa2 aa3 laa fzaa0 fzaa1 fzaa2 fzaa3 xx0 xx1 xx2 xx3 lxx fzxx0 fzxx1 fzxx2 fzxx3
    have hloc:lo.length≤100000:=by omega
    obtain ⟨va,vc,hv⟩:=H11.out.2.2.2.1.form
    subst hv
    go_wp2_with (at_builtin;with_reducible refine stopA rfl ?_)
    refine hide ?_
    refine wpList_pushG elem_off rfl (.tmp 44) (.tmp 64) rfl (w0:=w) (HUW.out.trans (by repeat (first|with_reducible (first|exact Up.refl _|apply Up.plus)|apply Up.ext|apply Up.alloc|apply Up.drew|refine Up.setCell ?_ (by simp;try omega) _))) (base:=Z) (by have:=HUW.out.below.size;have:=KO.out.2.1;omega) (Nat.le_trans H11.out.2.2.2.2 (by simp)) rfl (H11.out.2.2.2.1.up (by repeat (first|with_reducible (first|exact Up.refl _|apply Up.plus)|apply Up.ext|apply Up.alloc|apply Up.drew|refine Up.setCell ?_ (by simp;try omega) _))) hloc (by decide) o rfl (Box.mk (by simp [TOff,offL,offA])) ?_
    intro gN cN W' huW ho hgr
    have hnr:∀ q,(Value.slice va lo.length vc).ownBlock=some q→Z≤q:=fun q hq=>(H11.out.2.2.2.1.lt q hq).1
    have hWZ:W.heap.size≤Z:=by omega
    have H12:=hide (And.intro ((H11.out.1.up (by repeat (first|with_reducible (first|exact Up.refl _|apply Up.plus)|apply Up.ext|apply Up.alloc|apply Up.drew|refine Up.setCell ?_ (by simp;try omega) _))).grown ((H11.out.1.r.ofUp (by repeat (first|with_reducible (first|exact Up.refl _|apply Up.plus)|apply Up.ext|apply Up.alloc|apply Up.drew|refine Up.setCell ?_ (by simp;try omega) _))).grown hgr (fun q hq=>by have:=hnr q hq;omega)) hgr (fun e=>by have:=hnr _ e;omega) (fun e=>by have:=hnr _ e;omega) (fun e=>by have:=hnr _ e;omega)) (And.intro ((H11.out.2.1.up (by repeat (first|with_reducible (first|exact Up.refl _|apply Up.plus)|apply Up.ext|apply Up.alloc|apply Up.drew|refine Up.setCell ?_ (by simp;try omega) _))).grown hgr (fun b hb e=>by have:=hnr _ e;omega) (fun e=>by have:=hnr _ e;omega) (fun e=>by have:=hnr _ e;omega) (fun e=>by have:=hnr _ e;omega)) (And.intro (show Boxes (fun b=>m0≤b∧b<Z) W' (.slice ba bn bc) set from (H11.out.2.2.1.keeps (Up.keeps (by repeat (first|with_reducible (first|exact Up.refl _|apply Up.plus)|apply Up.ext|apply Up.alloc|apply Up.drew|refine Up.setCell ?_ (by simp;try omega) _)) _)).keeps ⟨hgr.size,fun b hb hl=>hgr.block b hl (fun e=>by have:=hnr _ e.symm;omega)⟩) (And.intro ho (Nat.le_trans H11.out.2.2.2.2 (Nat.le_trans (by simp) hgr.size))))))
    clear huW ho hgr hnr H11 HUW
    go_wp2_with fail
    go_roundw
    case rel=>exact ⟨k',lo++[o],by omega,by simp;omega,by go_num,hide ⟨⟨H12.out.1.r.mono (by omega),H12.out.1.a,H12.out.1.b,H12.out.1.c⟩,H12.out.2⟩,hide (fun x hx=>by
     rcases List.mem_append.1 hx with h | h
     · exact HLO.out x h
     · simp at h;subst h;exact HOO.out)⟩
    case measure=>simp [intOf]
  · have hkb:decide ((0:Int)<(k:Int))=false:=by simp;omega
    have hkn:decide (0<k)=false:=by simp;omega
    obtain rfl:k=0:=by omega
    obtain ⟨va,vc,hv⟩:=HI.out.2.2.2.1.form
    subst hv
    have hlo9:lo.length≤offs:=by omega
    go_wp2_with fail
    have HL:=hide (show Lst TOff (fun b=>Z≤b) wr (.slice va lo.length vc) lo from HI.out.2.2.2.1.lies (by omega))
    have hS0:=hide (show Box wr.drew q1 #[.slice a n c,.int .i64 home,.slice sa sn sc,.slice ca cn cc] 29∧Box wr.drew q2 #[.int .i64 (l1),.int .i64 (l2),.int .i64 (h1),.int .i64 (h2),.int .i64 (g)] 33∧Box wr.drew q4 #[.int .i64 (sx),.int .i64 (sy),.int .i64 (su),.int .i64 (sv)] 37 from ⟨HI.out.2.1.s.drew,HI.out.2.1.d.drew,HI.out.2.1.x.drew⟩)
    refine wp_region_L (fun W'=>Box W' q1 #[.slice a n c,.int .i64 home,.slice sa sn sc,.slice ca cn cc] 29∧Box W' q2 #[.int .i64 (l1),.int .i64 (l2),.int .i64 (h1),.int .i64 (h2),.int .i64 (g)] 33∧Box W' q4 #[.int .i64 (sx),.int .i64 (sy),.int .i64 (su),.int .i64 (sv)] 37) 9 (by kernel_rfl) ?_
    refine anyL_take 0 (v:=(.agg #[.slice a n c,.int .i64 home,.slice sa sn sc,.slice ca cn cc])) rfl (by kernel_rfl) (fun _ _ _ h=>h) (.inl ⟨rfl,fun W' hW'=>by have e0:=Box.cell hW'.1 0 rfl;have e1:=Box.cell hW'.1 1 rfl;have e2:=Box.cell hW'.1 2 rfl;have e3:=Box.cell hW'.1 3 rfl;simp [go_sem,e0,e1,e2,e3]⟩) hS0.out ?_
    simp only [Act.put,List.setIfInBounds_toArray,List.set_cons_zero,List.set_cons_succ]
    refine anyL_take 1 (v:=(.agg #[.int .i64 (l1),.int .i64 (l2),.int .i64 (h1),.int .i64 (h2),.int .i64 (g)])) rfl (by kernel_rfl) (fun _ _ _ h=>h) (.inl ⟨rfl,fun W' hW'=>by have e0:=Box.cell hW'.2.1 0 rfl;have e1:=Box.cell hW'.2.1 1 rfl;have e2:=Box.cell hW'.2.1 2 rfl;have e3:=Box.cell hW'.2.1 3 rfl;have e4:=Box.cell hW'.2.1 4 rfl;simp [go_sem,e0,e1,e2,e3,e4]⟩) hS0.out ?_
    simp only [Act.put,List.setIfInBounds_toArray,List.set_cons_zero,List.set_cons_succ]
    refine anyL_take 2 (v:=(.slice ba bn bc)) rfl (by kernel_rfl) (fun _ _ _ h=>h) (.inl ⟨rfl,fun W' hW'=>by simp [go_sem]⟩) hS0.out ?_
    simp only [Act.put,List.setIfInBounds_toArray,List.set_cons_zero,List.set_cons_succ]
    refine anyL_take 3 (v:=(.slice va lo.length vc)) rfl (by kernel_rfl) (fun _ _ _ h=>h) (.inl ⟨rfl,fun W' hW'=>by simp [go_sem]⟩) hS0.out ?_
    simp only [Act.put,List.setIfInBounds_toArray,List.set_cons_zero,List.set_cons_succ]
    refine anyL_take 4 (v:=(.agg #[.int .i64 (sx),.int .i64 (sy),.int .i64 (su),.int .i64 (sv)])) rfl (by kernel_rfl) (fun _ _ _ h=>h) (.inl ⟨rfl,fun W' hW'=>by have e0:=Box.cell hW'.2.2 0 rfl;have e1:=Box.cell hW'.2.2 1 rfl;have e2:=Box.cell hW'.2.2 2 rfl;have e3:=Box.cell hW'.2.2 3 rfl;simp [go_sem,e0,e1,e2,e3]⟩) hS0.out ?_
    simp only [Act.put,List.setIfInBounds_toArray,List.set_cons_zero,List.set_cons_succ]
    have ya0:=(HI.out.1.a).cell 0 rfl
    have ya1:=(HI.out.1.a).cell 1 rfl
    have ya2:=(HI.out.1.a).cell 2 rfl
    have ya3:=(HI.out.1.a).cell 3 rfl
    have lya:=(HI.out.1.a).lt
    have fzya0:=(HI.out.1.a).frozen 0
    have fzya1:=(HI.out.1.a).frozen 1
    have fzya2:=(HI.out.1.a).frozen 2
    have fzya3:=(HI.out.1.a).frozen 3
    have yb0:=(HI.out.1.b).cell 0 rfl
    have yb1:=(HI.out.1.b).cell 1 rfl
    have yb2:=(HI.out.1.b).cell 2 rfl
    have yb3:=(HI.out.1.b).cell 3 rfl
    have yb4:=(HI.out.1.b).cell 4 rfl
    have lyb:=(HI.out.1.b).lt
    have fzyb0:=(HI.out.1.b).frozen 0
    have fzyb1:=(HI.out.1.b).frozen 1
    have fzyb2:=(HI.out.1.b).frozen 2
    have fzyb3:=(HI.out.1.b).frozen 3
    have fzyb4:=(HI.out.1.b).frozen 4
    have yc0:=(HI.out.1.c).cell 0 rfl
    have yc1:=(HI.out.1.c).cell 1 rfl
    have yc2:=(HI.out.1.c).cell 2 rfl
    have yc3:=(HI.out.1.c).cell 3 rfl
    have lyc:=(HI.out.1.c).lt
    have fzyc0:=(HI.out.1.c).frozen 0
    have fzyc1:=(HI.out.1.c).frozen 1
    have fzyc2:=(HI.out.1.c).frozen 2
    have fzyc3:=(HI.out.1.c).frozen 3
    have M11:q1≠z1:=by omega
    have M12:q1≠z2:=by omega
    have M13:q1≠z3:=by omega
    have M21:q2≠z1:=by omega
    have M22:q2≠z2:=by omega
    have M23:q2≠z3:=by omega
    have M41:q4≠z1:=by omega
    have M42:q4≠z2:=by omega
    have M43:q4≠z3:=by omega
    refine anyL_one (i:=5) (by kernel_rfl) rfl (fun K HK=>?_)
    go_wp2_with fail
    refine HK.out _ _ (fun _=>⟨((((HI.out.2.1.s.other M11 0 _).other M11 1 _).other M11 2 _).other M11 3 _).drew,((((HI.out.2.1.d.other M21 0 _).other M21 1 _).other M21 2 _).other M21 3 _).drew,((((HI.out.2.1.x.other M41 0 _).other M41 1 _).other M41 2 _).other M41 3 _).drew⟩) ?_
    clear HK
    refine anyL_one (i:=6) (by kernel_rfl) rfl (fun K HK=>?_)
    go_wp2_with fail
    refine HK.out _ _ (fun _=>⟨(((((((((HI.out.2.1.s.other M11 0 _).other M11 1 _).other M11 2 _).other M11 3 _).other M12 0 _).other M12 1 _).other M12 2 _).other M12 3 _).other M12 4 _).drew,(((((((((HI.out.2.1.d.other M21 0 _).other M21 1 _).other M21 2 _).other M21 3 _).other M22 0 _).other M22 1 _).other M22 2 _).other M22 3 _).other M22 4 _).drew,(((((((((HI.out.2.1.x.other M41 0 _).other M41 1 _).other M41 2 _).other M41 3 _).other M42 0 _).other M42 1 _).other M42 2 _).other M42 3 _).other M42 4 _).drew⟩) ?_
    clear HK
    refine anyL_one (i:=7) (by kernel_rfl) rfl (fun K HK=>?_)
    go_wp2_with fail
    refine HK.out _ _ (fun _=>⟨(((((((((HI.out.2.1.s.other M11 0 _).other M11 1 _).other M11 2 _).other M11 3 _).other M12 0 _).other M12 1 _).other M12 2 _).other M12 3 _).other M12 4 _).drew,(((((((((HI.out.2.1.d.other M21 0 _).other M21 1 _).other M21 2 _).other M21 3 _).other M22 0 _).other M22 1 _).other M22 2 _).other M22 3 _).other M22 4 _).drew,(((((((((HI.out.2.1.x.other M41 0 _).other M41 1 _).other M41 2 _).other M41 3 _).other M42 0 _).other M42 1 _).other M42 2 _).other M42 3 _).other M42 4 _).drew⟩) ?_
    clear HK
    refine anyL_one (i:=8) (by kernel_rfl) rfl (fun K HK=>?_)
    go_wp2_with fail
    refine HK.out _ _ (fun _=>⟨(((((((((HI.out.2.1.s.other M11 0 _).other M11 1 _).other M11 2 _).other M11 3 _).other M12 0 _).other M12 1 _).other M12 2 _).other M12 3 _).other M12 4 _).drew,(((((((((HI.out.2.1.d.other M21 0 _).other M21 1 _).other M21 2 _).other M21 3 _).other M22 0 _).other M22 1 _).other M22 2 _).other M22 3 _).other M22 4 _).drew,(((((((((HI.out.2.1.x.other M41 0 _).other M41 1 _).other M41 2 _).other M41 3 _).other M42 0 _).other M42 1 _).other M42 2 _).other M42 3 _).other M42 4 _).drew⟩) ?_
    clear HK
    refine anyL_one (i:=9) (by kernel_rfl) rfl (fun K HK=>?_)
    go_wp2_with fail
    refine HK.out _ _ (fun h=>(h rfl).elim) ?_
    clear HK
    refine anyL_done (by kernel_rfl) ?_
    go_wp2_with fail
    refine forgetW (fun U=>RingAt W B (t+60+5+9+8+1+1+16*(offs - (0:Nat))) U∧SkyL (fun b=>m0≤b∧b<Z) U a n c sa sn sc ca cn cc s∧Boxes (fun b=>m0≤b∧b<Z) U (.slice ba bn bc) set∧Lst TOff (fun b=>Z≤b) U (.slice va lo.length vc) lo∧Box U z1 #[.slice a n c,.int .i64 home,.slice sa sn sc,.slice ca cn cc] 29∧Box U z2 #[.int .i64 (l1),.int .i64 (l2),.int .i64 (h1),.int .i64 (h2),.int .i64 (g)] 33∧Box U z3 #[.int .i64 (sx),.int .i64 (sy),.int .i64 (su),.int .i64 (sv)] 37) ?_ ?_
    · have h:=wf_end HI.out.1 HI.out.2.1.l HI.out.2.2.1 HL.out (by omega) (by omega) (by omega) (by omega) (by omega) (by omega) Wz1 Wz2 Wz3 N12 N13 N23 (.slice a n c) (.int .i64 home) (.slice sa sn sc) (.slice ca cn cc) (.int .i64 l1) (.int .i64 l2) (.int .i64 h1) (.int .i64 h2) (.int .i64 g) (.int .i64 sx) (.int .i64 sy) (.int .i64 su) (.int .i64 sv)
      exact ⟨h.1.drew,h.2.1.up (Up.refl _).drew,h.2.2.1.keeps ((Up.refl _).drew.keeps _),h.2.2.2.1.up (Up.refl _).drew,h.2.2.2.2.1.drew,h.2.2.2.2.2.1.drew,h.2.2.2.2.2.2.drew⟩
    clear HI HL hS0 ya0 ya1 ya2 ya3 lya fzya0 fzya1 fzya2 fzya3 yb0 yb1 yb2 yb3 yb4 lyb fzyb0 fzyb1 fzyb2 fzyb3 fzyb4 yc0 yc1 yc2 yc3 lyc fzyc0 fzyc1 fzyc2 fzyc3
    rintro U ⟨f1,f2,f3,f4,f5,f6,f7⟩
    have ca_0:=f5.cell 0 rfl
    have ca_1:=f5.cell 1 rfl
    have ca_2:=f5.cell 2 rfl
    have ca_3:=f5.cell 3 rfl
    have cb_0:=f6.cell 0 rfl
    have cb_1:=f6.cell 1 rfl
    have cb_2:=f6.cell 2 rfl
    have cb_3:=f6.cell 3 rfl
    have cb_4:=f6.cell 4 rfl
    have cd_0:=f7.cell 0 rfl
    have cd_1:=f7.cell 1 rfl
    have cd_2:=f7.cell 2 rfl
    have cd_3:=f7.cell 3 rfl
    exact bodyPost_ret (v:=.tuple #[.agg #[.slice a n c,.int .i64 home,.slice sa sn sc,.slice ca cn cc],.agg #[.int .i64 (l1),.int .i64 (l2),.int .i64 (h1),.int .i64 (h2),.int .i64 (g)],.slice ba bn bc,.slice va lo.length vc,.agg #[.int .i64 (sx),.int .i64 (sy),.int .i64 (su),.int .i64 (sv)]]) (by simp [results,Tryz.results8,go_sem,ca_0,ca_1,ca_2,ca_3,cb_0,cb_1,cb_2,cb_3,cb_4,cd_0,cd_1,cd_2,cd_3]) rfl ⟨a,n,c,sa,sn,sc,ca,cn,cc,s,⟨(l1,l2),(h1,h2),g⟩,ba,bn,bc,set,va,lo.length,vc,lo,sx,sy,su,sv,by rw [hhome],f1.mono (by omega),f2.mono (fun b _ hb=>by omega),HSM.out.1,f3.mono (fun b _ hb=>by omega),f4.mono (fun b _ hb=>by omega),HSET.out.1,HSET.out.2,hlo9,HLO.out,HDD.out,HSX.out⟩
end Go.Proofs.YteafglginnonnaaGreat
