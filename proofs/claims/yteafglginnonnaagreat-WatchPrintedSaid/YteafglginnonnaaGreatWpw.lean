/- The law of WatchPrinted, walked. Conditions: what lies in memory. -/
import Derived.Test.YteafglginnonnaaGreatWst
import Derived.Test.YteafglginnonnaaGreatSuc
import Derived.Test.YteafglginnonnaaGreatVG
import Derived.Test.YteafglginnonnaaGreatRdo
import Derived.Test.YteafglginnonnaaGreatWatchR
import Derived.Test.YteafglginnonnaaGreatW6b
import Derived.Test.YteafglginnonnaaGreatWmo
import Derived.Test.YteafglginnonnaaGreatBsp
set_option linter.unusedVariables false
set_option linter.unusedSimpArgs false
namespace Go.Proofs.YteafglginnonnaaGreat
open Go.RowKit Go.Shelf
structure WpR (V:World) (B:Nat) (K:Nat→Prop) (a:Option Addr) (n c:Nat) (sa:Option Addr) (sn sc:Nat) (ca:Option Addr) (cn cc:Nat) (s:SkyD) (home:Int) (d:DriftD) (ba:Option Addr) (bn bc:Nat) (set:List BoxD) (oa:Option Addr) (on oc:Nat) (offers:List OffD) (sx sy su sv:Int) (q1 q2 q3:Nat) (nn:Int) (U:World):Prop where
 r:RingAt V B nn U
 l:SkyL K U a n c sa sn sc ca cn cc s
 b:Boxes K U (.slice ba bn bc) set
 o:Lst TOff K U (.slice oa on oc) offers
 s:Box U q1 #[.slice a n c,.int .i64 home,.slice sa sn sc,.slice ca cn cc] 29
 d:Box U q2 #[.int .i64 (d.l.1),.int .i64 (d.l.2),.int .i64 (d.h.1),.int .i64 (d.h.2),.int .i64 (d.g)] 33
 x:Box U q3 #[.int .i64 (sx),.int .i64 (sy),.int .i64 (su),.int .i64 (sv)] 37
theorem WpR.up {V:World} {B:Nat} {K:Nat→Prop} {a:Option Addr} {n c:Nat} {sa:Option Addr} {sn sc:Nat} {ca:Option Addr} {cn cc:Nat} {s:SkyD} {home:Int} {d:DriftD} {ba:Option Addr} {bn bc:Nat} {set:List BoxD} {oa:Option Addr} {on oc:Nat} {offers:List OffD} {sx sy su sv:Int} {q1 q2 q3:Nat} {nn:Int} {U W:World} (h:WpR V B K a n c sa sn sc ca cn cc s home d ba bn bc set oa on oc offers sx sy su sv q1 q2 q3 nn U) (hu:Up U W):WpR V B K a n c sa sn sc ca cn cc s home d ba bn bc set oa on oc offers sx sy su sv q1 q2 q3 nn W :=
 ⟨h.r.ofUp hu,h.l.up hu,h.b.keeps (hu.keeps _),h.o.up hu,h.s.up hu,h.d.up hu,h.x.up hu⟩
theorem WpR.keep {V:World} {B:Nat} {K:Nat→Prop} {a:Option Addr} {n c:Nat} {sa:Option Addr} {sn sc:Nat} {ca:Option Addr} {cn cc:Nat} {s:SkyD} {home:Int} {d:DriftD} {ba:Option Addr} {bn bc:Nat} {set:List BoxD} {oa:Option Addr} {on oc:Nat} {offers:List OffD} {sx sy su sv:Int} {q1 q2 q3:Nat} {nn mm:Int} {U W:World} (h:WpR V B K a n c sa sn sc ca cn cc s home d ba bn bc set oa on oc offers sx sy su sv q1 q2 q3 nn U) (hr:RingAt V B mm W) (hk:Keeps (fun b=>b≠B∧b<U.heap.size) U W) (hK:∀ b,K b→b≠B) (h1:q1≠B) (h2:q2≠B) (h3:q3≠B):WpR V B K a n c sa sn sc ca cn cc s home d ba bn bc set oa on oc offers sx sy su sv q1 q2 q3 mm W:=by
 have hk2:Keeps K U W:=⟨hk.1,fun b hb hl=>hk.2 b ⟨hK b hb,hl⟩ hl⟩
 exact ⟨hr,h.l.keeps hk2,h.b.keeps hk2,h.o.keeps hk2,hk.box h.s ⟨h1,h.s.lt⟩,hk.box h.d ⟨h2,h.d.lt⟩,hk.box h.x ⟨h3,h.x.lt⟩⟩
theorem readof_at {w:World} {sl:Value} (hN:Nums w sl) {B:Nat} (hB:w.heap.size≤B) {K:Nat→Prop} (hK:∀ b,K b→b≠B) {a:Option Addr} {n c:Nat} {sa:Option Addr} {sn sc:Nat} {ca:Option Addr} {cn cc:Nat} {s:SkyD} {o:OffD} (ho:offE s o=0) {x y:Int} (hp:PBd (x,y)) (f:Bool) {t m:Int} {W V:World} (hu:Up w W) (hb:Box W B #[sl,.int .i64 t] 98) (hW:RingAt W B m V) (hL:SkyL K V a n c sa sn sc ca cn cc s) (hm:m+2≤100000) :
 Calls Tryz.prog 29 #[.pointer (some ⟨B,0,none⟩),.agg #[.slice a n c,.int .i64 s.home,.slice sa sn sc,.slice ca cn cc],.agg (offA o),.agg #[.int .i64 (x),.int .i64 (y)],.bool f] V fun e W'=>∃ v,e=.returned v∧RRead s o (x,y) v∧RingAt W B (m+2) W'∧V.grownBy W' (some B):=by
 obtain ⟨t1,h0,h1,hbW⟩:=hW.box hb
 refine (readof_any hN hB hK ho hp f (hW.up hu hB) hbW hL h0 (by omega)).mono ?_
 rintro e W' ⟨v,t',p',he,hv,h3,h4,rfl⟩
 exact ⟨v,he,hv,hW.called hb.lt h3 (by omega) p',grown_up (grown_set (grown_refl _ _) _ _) ((Up.refl _).ext _)⟩
theorem zip_snoc {p:Int} {r:Int×Int}:∀ {Q:List Int} {rs:List (Int×Int)},Q[rs.length]?=some p→Q.zip (rs++[r])=Q.zip rs++[(p,r)]
 | [],rs,h=>by simp at h
 | q::Q,[],h=>by simp at h;simp [h]
 | q::Q,x::rs,h=>by
  have:=zip_snoc (Q:=Q) (rs:=rs) (r:=r) (by simpa using h)
  simp [this]
structure RdOk (s:SkyD) (offers:List OffD) (L:List StD) (Q:List Int) (rs:List (Int×Int)) (f:Nat):Prop where
 ag:∀ (j:Nat) (o:OffD),j<rs.length→offers[(Q.getD j 0).toNat]?=some o→((rs.getD j (0,0)).1=0∨(rs.getD j (0,0)).1=1∨(rs.getD j (0,0)).1=2)∧agreesV s o (rs.getD j (0,0)).1 (rs.getD j (0,0)).2 ((L.getD o.tick.toNat (0,0,0,0)).1,(L.getD o.tick.toNat (0,0,0,0)).2.1)=true
 cnt:(Q.zip rs).countP (fun x=>decide (x.2.1=0))=f
 su:∀ x∈Q.zip rs,x.2.1=0→sureO offers x.1=false
theorem RdOk.nil (s:SkyD) (offers:List OffD) (L:List StD) (Q:List Int):RdOk s offers L Q [] 0:=⟨fun j o hj=>by simp at hj,by simp,fun x hx=>by simp at hx⟩
theorem RdOk.push {s:SkyD} {offers:List OffD} {L:List StD} {Q:List Int} {rs:List (Int×Int)} {f:Nat} (h:RdOk s offers L Q rs f) {j:Nat} {o:OffD} {r:Int×Int} (hq:Q[rs.length]?=some (j:Int)) (ho:offers[j]?=some o) (h1:r.1=0∨r.1=1∨r.1=2) (h2:agreesV s o r.1 r.2 ((L.getD o.tick.toNat (0,0,0,0)).1,(L.getD o.tick.toNat (0,0,0,0)).2.1)=true) (h3:r.1=0→o.sure=false):RdOk s offers L Q (rs++[r]) (if r.1=0 then f+1 else f):=by
 refine ⟨fun i o' hi ho'=>?_,?_,fun x hx hx0=>?_⟩
 · rw [List.length_append,List.length_singleton] at hi
   rcases Nat.lt_or_ge i rs.length with h4 | h4
   · rw [show (rs++[r]).getD i (0,0)=rs.getD i (0,0) by simp [List.getD,List.getElem?_append_left h4]]
     exact h.ag i o' h4 ho'
   · obtain rfl:i=rs.length:=by omega
     have e1:Q.getD rs.length 0=(j:Int):=by rw [List.getD,hq];rfl
     have e2:(rs++[r]).getD rs.length (0,0)=r:=by simp
     rw [e1,Int.toNat_natCast,ho] at ho'
     obtain rfl:o=o':=Option.some.inj ho'
     rw [e2]
     exact ⟨h1,h2⟩
 · rw [zip_snoc hq,List.countP_append,h.cnt]
   by_cases h0:r.1=0
   · simp [h0]
   · simp [h0]
 · rw [zip_snoc hq] at hx
   rcases List.mem_append.1 hx with h4 | h4
   · exact h.su x h4 hx0
   · obtain rfl:=List.mem_singleton.1 h4
     unfold sureO
     rw [Int.toNat_natCast,ho]
     exact h3 hx0
theorem WpR.low {V:World} {B:Nat} {K:Nat→Prop} {a:Option Addr} {n c:Nat} {sa:Option Addr} {sn sc:Nat} {ca:Option Addr} {cn cc:Nat} {s:SkyD} {home:Int} {d:DriftD} {ba:Option Addr} {bn bc:Nat} {set:List BoxD} {oa:Option Addr} {on oc:Nat} {offers:List OffD} {sx sy su sv:Int} {q1 q2 q3:Nat} {nn:Int} {U:World} (h:WpR V B K a n c sa sn sc ca cn cc s home d ba bn bc set oa on oc offers sx sy su sv q1 q2 q3 nn U) {Z:Nat} (hZ:U.heap.size≤Z):WpR V B (fun b=>K b∧b<Z) a n c sa sn sc ca cn cc s home d ba bn bc set oa on oc offers sx sy su sv q1 q2 q3 nn U :=
 ⟨h.r,h.l.mono fun b hb hk=>⟨hk,by omega⟩,h.b.mono fun b hb hk=>⟨hk,by omega⟩,h.o.mono fun b hb hk=>⟨hk,by omega⟩,h.s,h.d,h.x⟩
structure WpL (V:World) (B:Nat) (K:Nat→Prop) (a:Option Addr) (n c:Nat) (sa:Option Addr) (sn sc:Nat) (ca:Option Addr) (cn cc:Nat) (s:SkyD) (home:Int) (d:DriftD) (ba:Option Addr) (bn bc:Nat) (set:List BoxD) (oa:Option Addr) (on oc:Nat) (offers:List OffD) (sx sy su sv:Int) (q1 q2 q3:Nat) (la:Option Addr) (ln lc:Nat) (L:List StD) (ya:Option Addr) (yn yc:Nat) (Q:List Int) (Z:Nat) (nn:Int) (U:World):Prop where
 w:WpR V B (fun b=>K b∧b<Z) a n c sa sn sc ca cn cc s home d ba bn bc set oa on oc offers sx sy su sv q1 q2 q3 nn U
 t:Lst TSt (fun b=>b≠B∧b<Z) U (.slice la ln lc) L
 c:Lst TInt (fun b=>b≠B∧b<Z) U (.slice ya yn yc) Q
theorem WpL.up {V:World} {B:Nat} {K:Nat→Prop} {a:Option Addr} {n c:Nat} {sa:Option Addr} {sn sc:Nat} {ca:Option Addr} {cn cc:Nat} {s:SkyD} {home:Int} {d:DriftD} {ba:Option Addr} {bn bc:Nat} {set:List BoxD} {oa:Option Addr} {on oc:Nat} {offers:List OffD} {sx sy su sv:Int} {q1 q2 q3:Nat} {la:Option Addr} {ln lc:Nat} {L:List StD} {ya:Option Addr} {yn yc:Nat} {Q:List Int} {Z:Nat} {nn:Int} {U W:World} (h:WpL V B K a n c sa sn sc ca cn cc s home d ba bn bc set oa on oc offers sx sy su sv q1 q2 q3 la ln lc L ya yn yc Q Z nn U) (hu:Up U W):WpL V B K a n c sa sn sc ca cn cc s home d ba bn bc set oa on oc offers sx sy su sv q1 q2 q3 la ln lc L ya yn yc Q Z nn W:=⟨h.w.up hu,h.t.up hu,h.c.up hu⟩
theorem WpL.next {V:World} {B:Nat} {K:Nat→Prop} {a:Option Addr} {n c:Nat} {sa:Option Addr} {sn sc:Nat} {ca:Option Addr} {cn cc:Nat} {s:SkyD} {home:Int} {d:DriftD} {ba:Option Addr} {bn bc:Nat} {set:List BoxD} {oa:Option Addr} {on oc:Nat} {offers:List OffD} {sx sy su sv:Int} {q1 q2 q3:Nat} {la:Option Addr} {ln lc:Nat} {L:List StD} {ya:Option Addr} {yn yc:Nat} {Q:List Int} {Z:Nat} {nn mm:Int} {U W:World} (h:WpL V B K a n c sa sn sc ca cn cc s home d ba bn bc set oa on oc offers sx sy su sv q1 q2 q3 la ln lc L ya yn yc Q Z nn U) (hr:RingAt V B mm W) (hg:U.grownBy W (some B)) (hK:∀ b,K b→b≠B) (h1:q1≠B) (h2:q2≠B) (h3:q3≠B):WpL V B K a n c sa sn sc ca cn cc s home d ba bn bc set oa on oc offers sx sy su sv q1 q2 q3 la ln lc L ya yn yc Q Z mm W:=by
 have hk:Keeps (fun b=>b≠B) U W:=Keeps.grown hg (fun b hb=>hb)
 exact ⟨h.w.keep hr ⟨hk.1,fun b hb hl=>hk.2 b hb.1 hl⟩ (fun b hb=>hK b hb.1) h1 h2 h3,h.t.keeps (hk.less fun b hb=>hb.1),h.c.keeps (hk.less fun b hb=>hb.1)⟩
theorem WpL.push {V:World} {B:Nat} {K:Nat→Prop} {a:Option Addr} {n c:Nat} {sa:Option Addr} {sn sc:Nat} {ca:Option Addr} {cn cc:Nat} {s:SkyD} {home:Int} {d:DriftD} {ba:Option Addr} {bn bc:Nat} {set:List BoxD} {oa:Option Addr} {on oc:Nat} {offers:List OffD} {sx sy su sv:Int} {q1 q2 q3:Nat} {la:Option Addr} {ln lc:Nat} {L:List StD} {ya:Option Addr} {yn yc:Nat} {Q:List Int} {Z:Nat} {nn:Int} {U W:World} (h:WpL V B K a n c sa sn sc ca cn cc s home d ba bn bc set oa on oc offers sx sy su sv q1 q2 q3 la ln lc L ya yn yc Q Z nn U) {row:Option Nat} (hg:U.grownBy W row) (hlt:∀ g,row=some g→Z≤g) (hV:V.heap.size≤Z) (h1:q1<Z) (h2:q2<Z) (h3:q3<Z):WpL V B K a n c sa sn sc ca cn cc s home d ba bn bc set oa on oc offers sx sy su sv q1 q2 q3 la ln lc L ya yn yc Q Z nn W:=by
 have hk:Keeps (fun b=>b<Z) U W:=(Keeps.refl _ U).turn hg (fun b hb hk=>by have:=hlt b hb;have hk:b<Z:=hk;omega)
 exact ⟨⟨h.w.r.grown hg (fun k e=>by have:=hlt k e;omega),h.w.l.keeps (hk.less fun b hb=>hb.2),h.w.b.keeps (hk.less fun b hb=>hb.2),h.w.o.keeps (hk.less fun b hb=>hb.2),h.w.s.grown hg (fun e=>by have:=hlt _ e;omega),h.w.d.grown hg (fun e=>by have:=hlt _ e;omega),h.w.x.grown hg (fun e=>by have:=hlt _ e;omega)⟩,h.t.keeps (hk.less fun b hb=>hb.2),h.c.keeps (hk.less fun b hb=>hb.2)⟩
theorem wpr_end {s:SkyD} (hs:SmallSky s) {d:DriftD} {set:List BoxD} {offers:List OffD} (hW:watchE s d 0 set offers=0) {x0:StD} {l:List StD} (hT:truthV s.bodies s.home d 0 (x0::l) = -1) (hl:l.length=4) (hoe:∀ o∈offers,offE s o=0∧0≤o.tick∧o.tick≤3) {X:Int} {Q:List Int} (hQ:Q=chL X offers.length) {rs:List (Int×Int)} {f:Nat} (h:RdOk s offers (x0::l) Q rs f) (hrs:rs.length=Q.length) (hbk:∀ b∈set,BOk b) :
 leftV s d 0 set offers Q rs=(leftL (tabV s d 0 set offers) Q rs set.length,0)∧(leftL (tabV s d 0 set offers) Q rs set.length).length≤worstT (tabV s d 0 set offers) (sureO offers) set.length f Q∧∀ (k:Nat) (b:BoxD),set[k]?=some b→holdsB b x0=true→(leftL (tabV s d 0 set offers) Q rs set.length).contains (k:Int)=true:=by
 have hq:∀ o∈Q,0≤o∧o<offers.length:=fun o ho=>mem_chL' (x:=X) (k:=offers.length) (by rw [← hQ];exact ho)
 have hr:∀ r∈rs,r.1=0∨r.1=1∨r.1=2:=fun r hr=>by
  obtain ⟨j,hj,rfl⟩:=List.mem_iff_getElem.1 hr
  have hm:Q.getD j 0∈Q:=by rw [List.getD,List.getElem?_eq_getElem (by omega)];exact List.getElem_mem (by omega)
  have h1:=hq _ hm
  obtain ⟨o,ho⟩:∃ o,offers[(Q.getD j 0).toNat]?=some o:=⟨_,List.getElem?_eq_getElem (by omega)⟩
  have h2:=(h.ag j o hj ho).1
  rw [List.getD,List.getElem?_eq_getElem hj] at h2
  exact h2
 refine ⟨?_,left_most hrs hr (by rw [h.cnt];exact Nat.le_refl _) h.su (fun o _ i _ _=>tab_lim _ _),fun k b hk hh=>?_⟩
 · have hch:chE offers.length Q=0:=by rw [hQ];exact chE_chL _ _
   have hany:rs.any (fun r=>!rdB r)=false:=by
    rw [List.any_eq_false]
    intro r h1
    have:=hr r h1
    unfold rdB withinB
    rcases this with h2 | h2 | h2 <;> simp [h2]
   unfold leftV
   rw [if_pos hW,if_pos hch,if_pos ⟨hrs,hany⟩]
 · rw [List.contains_iff_mem]
   exact cell_left hs hW hT (fun o ho=>by have:=(hoe o ho).2;simp only [List.length_cons];omega) hq hrs (fun j o hj ho=>h.ag j o (by omega) ho) hk (hbk b (List.mem_of_getElem? hk)) hh
set_option maxRecDepth 100000 in
set_option maxHeartbeats 100000000 in
theorem wprinted_law (HD:DelC) (v0:Value) {w:World} (hN:Nums w v0) (choice:Int) (bc0:-9223372036854775808≤choice∧choice≤9223372036854775807) :
 Gives Tryz.prog 6 #[v0,.int .i64 choice] w (.bool true):=by
 have HA:=hide (fun w=>awake6_any w)
 have HN:=hide hN
 obtain ⟨na,nn,nc,rfl⟩:=hN.form
 clear hN
 (unfold Gives;go_enter Tryz.func6,Tryz.ntmps6)
 go_wp2_with fail
 go_at_call 9
 refine (newring_any _ _ _ _).mono ?_
 rintro _ _ ⟨rfl,rfl⟩
 go_wp2_with fail
 go_at_call 8
 obtain ⟨B,hBB⟩:∃ b,b=w.heap.size:=⟨_,rfl⟩
 rw [← hBB]
 refine forgetC (fun V=>Up w V∧Box V B #[.slice na nn nc,.int .i64 0] 98) ⟨Up.go,by rw [hBB];exact Box.go⟩ ?_
 rintro V ⟨hu,hb⟩
 have hBw:w.heap.size≤B:=by omega
 have hBV:B<V.heap.size:=hb.lt
 have HUB:=hide (And.intro hu hb)
 refine (watchof_any HN.out (B:=B) hBw (cells:=9) (offs:=4) (by omega) (by omega) (by omega) 0 V hu hb (by omega) (by omega)).mono ?_
 rintro _ W2 ⟨a,n,c,sa,sn,sc,ca,cn,cc,s,d,ba,bn,bc,set,oa,on,oc,offers,sx,sy,su,sv,rfl,hR,hL,hsm,hB,hO,hsl,hsk,hon,hoe,hdd,hss⟩
 have hon':=(Offs.at hO).1
 have hbn':=(Boxes.at hB).1
 obtain ⟨home,hhome⟩:∃ h,s.home=h:=⟨_,rfl⟩
 rw [hhome]
 have hh:I64 home:=hhome▸hL.h
 obtain ⟨K,hK⟩:∃ K:Nat→Prop,K=fun b=>V.heap.size≤b:=⟨_,rfl⟩
 rw [← hK] at hL hB hO
 have hKB:∀ b,K b→b≠B:=fun b hb=>by rw [hK] at hb;have:V.heap.size≤b:=hb;omega
 have hVW:=hR.size
 have H2:=hide (And.intro hR (And.intro hL (And.intro hB hO)))
 have HON:=hide (And.intro hon' hbn')
 have hon4:offers.length≤4:=hon
 have HSM:=hide hsm
 have HSK:=hide hsk
 have HOE:=hide hoe
 have HKB:=hide hKB
 clear hR hL hsm hB hO hsl hsk hon hoe hdd hss hu hb hK hon' hbn' hKB
 go_wp2_with fail
 go_at_call 27
 obtain ⟨q1,hq1⟩:∃ b,b=W2.heap.size:=⟨_,rfl⟩
 obtain ⟨q2,hq2⟩:∃ b,b=W2.heap.size+1:=⟨_,rfl⟩
 obtain ⟨q3,hq3⟩:∃ b,b=W2.heap.size+1+1:=⟨_,rfl⟩
 rw [← hq3,← hq2,← hq1,← hBB]
 refine forgetK (fun U=>WpR V B K a n c sa sn sc ca cn cc s home d ba bn bc set oa on oc offers sx sy su sv q1 q2 q3 280 U) ⟨H2.out.1.ofUp Up.go,H2.out.2.1.up Up.go,H2.out.2.2.1.keeps (Up.keeps Up.go _),H2.out.2.2.2.up Up.go,by rw [hq1];exact Box.go,by rw [hq2];exact Box.go,by rw [hq3];exact Box.go⟩ ?_
 have q12:q1≠B∧q2≠B∧q3≠B:=by omega
 clear H2 hq1 hq2 hq3 hVW
 intro U3 h3
 have H3:=hide h3
 clear h3
 refine (truthof_at HN.out hBw HKB.out hh d 0 sx sy su sv (by omega) (ticks:=4) (by omega) HUB.out.1 HUB.out.2 H3.out.r H3.out.l.b (by omega)).mono ?_
 rintro _ U4 ⟨la,ln,lc,l,rfl,hl,hl4,hR4,hk4⟩
 obtain rfl:ln=5:=by have h:=(Sts.at hl).1;simp only [List.length_cons,hl4] at h;omega
 have hU3B:B<U3.heap.size:=Nat.lt_of_lt_of_le hBV H3.out.r.size
 have H4:=hide (And.intro (H3.out.keep hR4 hk4 HKB.out q12.1 q12.2.1 q12.2.2) hl)
 clear H3 hR4 hk4 hl
 obtain ⟨s0,s1,s2,s3⟩:=(H4.out.1.s).c4
 have ls:=(H4.out.1.s).lt
 obtain ⟨d0,d1,d2,d3,d4⟩:=(H4.out.1.d).c5
 have ld:=(H4.out.1.d).lt
 obtain ⟨x0,x1,x2,x3⟩:=(H4.out.1.x).c4
 have lx:=(H4.out.1.x).lt
 go_wp2_with fail
 go_at_call 10
 have hC:=wwatch_any H4.out.1.l d 0 H4.out.1.b H4.out.1.o
 rw [hhome] at hC
 have hE1:(watchE s d 0 set offers=0)∨(watchE s d 0 set offers≠0):=by omega
 obtain ⟨E,hE⟩:∃ E,E=watchE s d 0 set offers:=⟨_,rfl⟩
 rw [← hE] at hC hE1
 have HE:=hide hE
 have HC:=hide hC
 have HU4:=hide (H4.out.1.r.up HUB.out.1 hBw)
 clear hC hE
 rcases hE1 with rfl | hne
 rotate_left
 · have hEb:(E != 0)=true:=by simpa using hne
   clear hne HE
   refine HC.out.mono ?_
   intro p3
   go_wp2_with (go_at_call 11;(with_reducible refine (HA.out _).mono ?_);intro _)
   go_ret
   exact ⟨rfl,HU4.out.trans Up.go⟩
 have HTR:=hide (fun W (hu:Up U4 W)=>otruth_any (H4.out.1.l.up hu).b (by rw [hhome];exact hh:I64 s.home) d 0 (H4.out.2.up hu) (by simp;omega))
 rw [hhome] at HTR
 obtain ⟨TV,hTV⟩:∃ T,T=truthV s.bodies home d 0 ((sx,sy,su,sv)::l):=⟨_,rfl⟩
 rw [← hTV] at HTR
 have HTV:=hide hTV
 clear hTV
 refine HC.out.mono ?_
 intro p3
 clear HC
 by_cases hT1:TV = -1
 rotate_left
 · have hTb:(TV != -1)=true:=by simpa using hT1
   clear hT1 HTV
   go_wp2_with (first|(go_at_call 28;(with_reducible refine (HTR.out _ Up.go).mono ?_);intro _)|(go_at_call 11;(with_reducible refine (HA.out _).mono ?_);intro _))
   go_ret
   exact ⟨rfl,HU4.out.trans Up.go⟩
 subst hT1
 go_wp2_with (go_at_call 28;(with_reducible refine (HTR.out _ Up.go).mono ?_);intro _)
 go_at_call 14
 obtain ⟨Q,hQ⟩:∃ Q,Q=chL choice on:=⟨_,rfl⟩
 have h312:=H4.out.1
 rw [show (280:Int)+8*((4:Nat):Int)=312 from rfl] at h312
 refine forgetC (fun U=>WpR V B K a n c sa sn sc ca cn cc s home d ba bn bc set oa on oc offers sx sy su sv q1 q2 q3 312 U∧Lst TSt (fun b=>b≠B) U (.slice la 5 lc) ((sx,sy,su,sv)::l)) ⟨h312.up Up.go,(H4.out.2.mono fun b _ hb=>by show b≠B;have hb:U3.heap.size≤b:=hb;have:=hU3B;omega).up Up.go⟩ ?_
 clear H4 HTR HU4 h312 s0 s1 s2 s3 ls d0 d1 d2 d3 d4 ld x0 x1 x2 x3 lx
 rintro W5 ⟨h5,ht5⟩
 have H5:=hide (And.intro h5 ht5)
 have hBW5:B<W5.heap.size:=Nat.lt_of_lt_of_le hBV h5.r.size
 clear h5 ht5
 refine (chosen_any choice (n:=on) (by have:=HON.out.1;omega) _).mono ?_
 rintro _ W6 ⟨ya,yn,yc,pc,rfl,hch,hWc⟩
 have hu6:Up W5 W6:=by rw [hWc];exact Up.go
 rw [← hQ] at hch
 have hyn:=(Ints.at hch).1
 obtain ⟨Z,hZ⟩:∃ Z,Z=W6.heap.size:=⟨_,rfl⟩
 have hw6:=H5.out.1.up hu6
 have ht6:=H5.out.2.up hu6
 have HQZ:=hide (show V.heap.size≤Z∧q1<Z∧q2<Z∧q3<Z∧B<Z from ⟨by rw [hZ];exact hw6.r.size,by rw [hZ];exact hw6.s.lt,by rw [hZ];exact hw6.d.lt,by rw [hZ];exact hw6.x.lt,by rw [hZ];exact Nat.lt_of_lt_of_le hBV hw6.r.size⟩)
 have H6:=hide (show WpL V B K a n c sa sn sc ca cn cc s home d ba bn bc set oa on oc offers sx sy su sv q1 q2 q3 la 5 lc ((sx,sy,su,sv)::l) ya yn yc Q Z 312 W6 from ⟨hw6.low (by omega),ht6.mono fun b hb h=>⟨h,by omega⟩,hch.mono fun b hb h=>⟨by have h:W5.heap.size≤b:=h;omega,by omega⟩⟩)
 have hQn:Q.length≤4:=by rw [hQ];have:=chL_le choice on;have:=HON.out.1;omega
 have HYN:=hide hyn
 have HQM:=hide (fun (p:Int) (hp:p∈Q)=>mem_chL' (x:=choice) (k:=on) (by rw [← hQ];exact hp))
 have HQ:=hide hQ
 clear hch hWc hyn hQ H5 hu6 hw6 ht6
 have hBZ:=HQZ.out.2.2.2.2
 go_wp2_with fail
 go_loopw [13,14,15] (fun s13 s14 s15 wr=>∃ (k f:Nat) (rs:List (Int×Int)),k≤yn∧s15=.int .i64 k∧s14=.int .i64 f∧f≤3∧rs.length=k∧Hid (RdOk s offers ((sx,sy,su,sv)::l) Q rs f)∧Hid (WpL V B K a n c sa sn sc ca cn cc s home d ba bn bc set oa on oc offers sx sy su sv q1 q2 q3 la 5 lc ((sx,sy,su,sv)::l) ya yn yc Q Z (312+2*k) wr∧Own TRd 82 Z wr s13 rs∧Z≤wr.heap.size)) (fun _ _ s15 _=>yn - (intOf s15).toNat)
 case atStart=>exact ⟨0,0,[],by omega,rfl,rfl,by omega,rfl,hide (RdOk.nil _ _ _ _),hide ⟨H6.out.up Up.go,Own.nil _ _ _ _,by rw [hZ];exact Nat.le_refl _⟩⟩
 case round =>
  obtain ⟨k,f,rs,hk,rfl,rfl,hf3,hrk,HRO,HJ⟩:=hrel
  subst hrk
  clear H6 hZ
  have hk4:rs.length≤4:=by have:=HYN.out;omega
  by_cases hlt:rs.length<yn
  · have hkb:decide ((rs.length:Int)<yn)=true:=by simp;omega
    have hkn:decide (rs.length<yn)=true:=by simp;omega
    obtain ⟨yb,yo,p,rfl,hKp,hpw,hpk,pc0⟩:=(Ints.at HJ.out.1.c).2.2 rs.length hlt
    have hpm:=HQM.out p (List.mem_of_getElem? hpk)
    obtain ⟨j,rfl⟩:=Int.eq_ofNat_of_zero_le hpm.1
    have hj:j<on:=by omega
    obtain ⟨ob,oo,o,rfl,hKo,how,hoo,c0,c1,c2,c3,c4,c5,c6,c7,c8,c9,c10⟩:=(Offs.at HJ.out.1.w.o).2.2 j hj
    have hjn:decide (j<on)=true:=decide_eq_true hj
    have hjb:decide ((j:Int)<on)=true:=by simp;omega
    have hom:=List.mem_of_getElem? hoo
    have hot:=(HOE.out o hom).2
    have HOO:=hide (And.intro hpk hoo)
    obtain ⟨q16,hq16⟩:∃ b,b=wr.heap.size:=⟨_,rfl⟩
    clear hKp hKo hpm hpk hoo
    go_wp2_with fail
    try rw [← hq16]
    refine forgetW (fun U=>WpL V B K a n c sa sn sc ca cn cc s home d ba bn bc set (some ⟨ob,oo,none⟩) on oc offers sx sy su sv q1 q2 q3 la 5 lc ((sx,sy,su,sv)::l) (some ⟨yb,yo,none⟩) yn yc Q Z (312+2*rs.length) U∧Own TRd 82 Z U u13 rs∧Box U q16 #[.int .i64 o.kind,.int .i64 o.station,.int .i64 o.catalog,.int .i64 o.tick,.int .i64 o.dx,.int .i64 o.dy,.int .i64 o.err,.int .i64 o.far,.int .i64 o.wide,.int .i64 o.cost,.bool o.sure] 50) ⟨HJ.out.1.up Up.go,HJ.out.2.1.up Up.go,by rw [hq16];exact Box.go⟩ ?_
    have hZq:Z≤q16:=by rw [hq16];exact HJ.out.2.2
    clear HJ hq16 c0 c1 c2 c3 c4 c5 c6 c7 c8 c9 c10 how hpw pc0
    rintro U7 ⟨h7,o7,b7⟩
    have H7:=hide (And.intro h7 (And.intro o7 b7))
    obtain ⟨tb,to',st,hla,hKt,htw,hst,e0,e1,e2,e3⟩:=(Sts.at h7.t).2.2 o.tick.toNat (by omega)
    have ht0:decide (0≤o.tick)=true:=decide_eq_true hot.1
    have ht1:decide (o.tick<(5:Int))=true:=decide_eq_true (by omega)
    have ht2:decide (o.tick.toNat<5)=true:=decide_eq_true (by omega)
    have f3:=b7.cell 3 rfl
    have lf:=b7.lt
    clear h7 o7 b7
    subst hla
    have HST:=hide hst
    clear hKt hst
    refine wp_region_float (al:=[(13,17,#[.int .i64 (0),.int .i64 (0)],48)]) (mv:=fun _=>false) [14] [0,1,2,3,4,5,6,7,8,9,10,11,12] (by kernel_rfl) (by kernel_rfl) (makes1 ⟨_,rfl,rfl,fun _=>rfl,fun _ _=>by simp [go_sem]⟩) (cls_ext _) (by first|exact drew_in2 _ _|exact drew_in _) (Nat.le_refl _) ?_
    simp only [withOps,List.filterMap_cons,List.filterMap_nil,List.getElem?_toArray,List.getElem?_cons_zero,List.getElem?_cons_succ,Option.map_some]
    (repeat (first|(apply walkF_pure (base:=fun p:Ext=>ext _ p) rfl rfl rfl (by kernel_rfl);· (intro px K hK;go_big_quiet_op;first|exact hK|(apply Exists.intro;refine ⟨fun _=>?_,?_⟩;(· (fail));exact hK)))|(apply walkF_skip rfl;simp only [Act.put,List.setIfInBounds_toArray,List.set_cons_zero,List.set_cons_succ])))
    refine walkF_nil (end1 (fun qv U8 hqv hU8 bqv=>?_))
    simp only [Act.put,List.setIfInBounds_toArray,List.set_cons_zero,List.set_cons_succ]
    (try simp only [List.filterMap_cons,List.filterMap_nil,List.getElem?_toArray,List.getElem?_cons_zero,List.getElem?_cons_succ])
    obtain ⟨fv0,fv1⟩:=bqv.f2
    have lv:=bqv.lt
    obtain ⟨v0',v1'⟩:=bqv.c2
    have hu8:Up U7 U8:=hU8
    have H8:=hide (And.intro (H7.out.1.up hu8) (And.intro (H7.out.2.1.up hu8) (H7.out.2.2.up hu8)))
    have n1:q1≠qv:=by have:=H7.out.1.w.s.lt;omega
    have n2:q2≠qv:=by have:=H7.out.1.w.d.lt;omega
    have n3:q3≠qv:=by have:=H7.out.1.w.x.lt;omega
    have n16:q16≠qv:=by have:=H7.out.2.2.lt;omega
    have nB:qv≠B:=by have:=H7.out.1.w.r.size;omega
    have hqZ:Z≤qv:=by have:=H7.out.2.2.lt;omega
    have HBV:=hide bqv
    have HU8:=hide hu8
    clear hU8 hu8 f3 lf e0 e1 e2 e3 htw bqv
    obtain ⟨s0,s1,s2,s3⟩:=(H8.out.1.w.s).c4
    have ls:=(H8.out.1.w.s).lt
    obtain ⟨f0,f1,f2,f3,f4,f5,f6,f7,f8,f9,f10⟩:=(H8.out.2.2).c11
    have lf:=(H8.out.2.2).lt
    have hst:=HST.out
    have hsto:StOk st:=by
     have h:=(truth_facts HTV.out.symm).2.2.2.1 o.tick.toNat (by simp [hl4];omega)
     rw [List.getD,hst] at h
     exact h
    have hpb:PBd (st.1,st.2.1):=⟨hsto.1,hsto.2.1⟩
    have HRD:=hide (fun (sb:Bool) (nn:Int) (U:World) (h:RingAt V B nn U) (hL:SkyL K U a n c sa sn sc ca cn cc s) (hn:nn+2≤100000)=>readof_at HN.out hBw HKB.out (HOE.out o hom).1 hpb sb HUB.out.1 HUB.out.2 h hL hn)
    rw [hhome] at HRD
    unfold offA at HRD
    clear hst hsto hpb
    rcases hsu:o.sure with _ | _
    · by_cases hf:f<3
      · have hfa:decide ((f:Int)<3)=true:=by simp;omega
        have hfb:decide (f<3)=true:=by simp;omega
        have hfc:((f:Int)==3)=false:=by simp;omega
        have hfd:(f==3)=false:=by simp;omega
        rw [hsu] at HRD
        go_wp2_with fail
        go_at_call 29
        rw [← hBB]
        have HUP:=hide ((HU8.out.setCell (q:=⟨qv,0,none⟩) hqv (.int .i64 st.1)).setCell (q:=⟨qv,1,none⟩) hqv (.int .i64 st.2.1))
        refine forgetC (fun U=>WpL V B K a n c sa sn sc ca cn cc s home d ba bn bc set (some ⟨ob,oo,none⟩) on oc offers sx sy su sv q1 q2 q3 (some ⟨tb,to',none⟩) 5 lc ((sx,sy,su,sv)::l) (some ⟨yb,yo,none⟩) yn yc Q Z (312+2*rs.length) U∧Own TRd 82 Z U u13 rs∧Box U q16 #[.int .i64 o.kind,.int .i64 o.station,.int .i64 o.catalog,.int .i64 o.tick,.int .i64 o.dx,.int .i64 o.dy,.int .i64 o.err,.int .i64 o.far,.int .i64 o.wide,.int .i64 o.cost,.bool o.sure] 50∧Box U qv #[.int .i64 (st.1),.int .i64 (st.2.1)] 48) ⟨H7.out.1.up HUP.out,H7.out.2.1.up HUP.out,H7.out.2.2.up HUP.out,(HBV.out.set 0 _).set 1 _⟩ ?_
        clear H7 H8 HUP HBV HU8 s0 s1 s2 s3 ls f0 f1 f2 f3 f4 f5 f6 f7 f8 f9 f10 lf fv0 fv1 lv v0' v1'
        rintro U9 ⟨h9,o9,b9,v9⟩
        refine (HRD.out true _ _ h9.w.r (h9.w.l.more fun b hb=>hb.1) (by omega)).mono ?_
        rintro _ U10 ⟨_,rfl,⟨ri,rx,rfl,hag,hri⟩,hR10,hg10⟩
        have H10:=hide (And.intro (h9.next hR10 hg10 HKB.out q12.1 q12.2.1 q12.2.2) (And.intro (show Own TRd 82 Z U10 u13 rs from ownsRow_keeps (K:=fun g=>u13.ownBlock=some g) o9 (Keeps.grown hg10 (fun b hb=>by have:=(o9.lt b hb).1;omega)) fun _ e=>e) (And.intro (b9.grown hg10 (by simp;omega)) (v9.grown hg10 (by simp;omega)))))
        clear h9 o9 b9 v9 hR10 hg10 HRD
        obtain ⟨s0,s1,s2,s3⟩:=(H10.out.1.w.s).c4
        have ls:=(H10.out.1.w.s).lt
        obtain ⟨f0,f1,f2,f3,f4,f5,f6,f7,f8,f9,f10⟩:=(H10.out.2.2.1).c11
        have lf:=(H10.out.2.2.1).lt
        obtain ⟨p0,p1⟩:=(H10.out.2.2.2).c2
        have lp:=(H10.out.2.2.2).lt
        have HAG:=hide (fun W (hu:Up U10 W)=>wAgrees_any (H10.out.1.w.l.up hu) o ri rx (st.1,st.2.1))
        rw [hhome,hag] at HAG
        unfold offA at HAG
        rw [hsu] at HAG
        go_wp2_with fail
        go_at_call 30
        refine (HAG.out _ Up.go).mono ?_
        intro pa
        clear HAG
        have HW10:=hide (H10.out.1.w.r.up HUB.out.1 hBw)
        have HGI:=hide (And.intro hag hri)
        clear hag hri
        obtain ⟨va,vc,hv⟩:=H10.out.2.1.form
        subst hv
        have hZ10:Z≤U10.heap.size:=by have:=H10.out.2.2.1.lt;omega
        by_cases hr0:ri=0
        · subst hr0
          go_wp2_with (at_builtin;with_reducible refine stopA rfl ?_)
          refine hide ?_
          refine wpList_pushG elem_rdg rfl (.tmp 115) (.tmp 117) rfl (w0:=w) (base:=Z) (HW10.out.trans Up.go) (by omega) (Nat.le_trans hZ10 (by simp <;> omega)) rfl (H10.out.2.1.up Up.go) (by omega) (by decide) ((0,rx):Int×Int) rfl (show Box _ _ #[.int .i64 0,.int .i64 rx] _ from Box.mk (by simp)) ?_
          intro g cap W' hu' ho hgr
          have HP:=hide ((H10.out.1.up Up.go).push hgr (fun g hg=>(H10.out.2.1.lt g hg).1) HQZ.out.1 HQZ.out.2.1 HQZ.out.2.2.1 HQZ.out.2.2.2.1)
          have HO:=hide (And.intro ho (Nat.le_trans hZ10 (Nat.le_trans (by simp <;> omega) hgr.size)))
          clear H10 hu' ho hgr s0 s1 s2 s3 ls f0 f1 f2 f3 f4 f5 f6 f7 f8 f9 f10 lf p0 p1 lp
          go_wp2
          go_roundw
          case rel =>
           refine ⟨rs.length+1,f+1,rs++[(0,rx)],by omega,by go_num,by go_num,by omega,by simp,hide ?_,hide ⟨?_,?_,Nat.le_trans HO.out.2 (by simp <;> omega)⟩⟩
           · have h:=HRO.out.push (j:=j) (o:=o) (r:=(0,rx)) HOO.out.1 HOO.out.2 (.inl rfl) (by rw [List.getD,HST.out];exact HGI.out.1) (fun e=>by first|exact hsu|exact absurd e hr0)
             dsimp only at h
             rw [if_pos rfl] at h
             exact h
           · rw [show (312:Int)+2*((rs.length+1:Nat):Int)=312+2*rs.length+2 by omega]
             exact HP.out.up Up.go
           · exact HO.out.1.up Up.go
          case measure=>simp [intOf];omega
        · have hrb:(ri==0)=false:=by simpa using hr0
          go_wp2_with (at_builtin;with_reducible refine stopA rfl ?_)
          refine hide ?_
          refine wpList_pushG elem_rdg rfl (.tmp 115) (.tmp 117) rfl (w0:=w) (base:=Z) (HW10.out.trans Up.go) (by omega) (Nat.le_trans hZ10 (by simp <;> omega)) rfl (H10.out.2.1.up Up.go) (by omega) (by decide) ((ri,rx):Int×Int) rfl (show Box _ _ #[.int .i64 ri,.int .i64 rx] _ from Box.mk (by simp)) ?_
          intro g cap W' hu' ho hgr
          have HP:=hide ((H10.out.1.up Up.go).push hgr (fun g hg=>(H10.out.2.1.lt g hg).1) HQZ.out.1 HQZ.out.2.1 HQZ.out.2.2.1 HQZ.out.2.2.2.1)
          have HO:=hide (And.intro ho (Nat.le_trans hZ10 (Nat.le_trans (by simp <;> omega) hgr.size)))
          clear H10 hu' ho hgr s0 s1 s2 s3 ls f0 f1 f2 f3 f4 f5 f6 f7 f8 f9 f10 lf p0 p1 lp
          go_wp2
          go_roundw
          case rel =>
           refine ⟨rs.length+1,f,rs++[(ri,rx)],by omega,by go_num,by go_num,hf3,by simp,hide ?_,hide ⟨?_,?_,Nat.le_trans HO.out.2 (by simp <;> omega)⟩⟩
           · have h:=HRO.out.push (j:=j) (o:=o) (r:=(ri,rx)) HOO.out.1 HOO.out.2 HGI.out.2 (by rw [List.getD,HST.out];exact HGI.out.1) (fun e=>by first|exact hsu|exact absurd e hr0)
             dsimp only at h
             rw [if_neg hr0] at h
             exact h
           · rw [show (312:Int)+2*((rs.length+1:Nat):Int)=312+2*rs.length+2 by omega]
             exact HP.out.up Up.go
           · exact HO.out.1.up Up.go
          case measure=>simp [intOf];omega
      · have hfa:decide ((f:Int)<3)=false:=by simp;omega
        have hfb:decide (f<3)=false:=by simp;omega
        have hfc:((f:Int)==3)=true:=by simp;omega
        have hfd:(f==3)=true:=by simp;omega
        rw [hsu] at HRD
        go_wp2_with fail
        go_at_call 29
        rw [← hBB]
        have HUP:=hide ((HU8.out.setCell (q:=⟨qv,0,none⟩) hqv (.int .i64 st.1)).setCell (q:=⟨qv,1,none⟩) hqv (.int .i64 st.2.1))
        refine forgetC (fun U=>WpL V B K a n c sa sn sc ca cn cc s home d ba bn bc set (some ⟨ob,oo,none⟩) on oc offers sx sy su sv q1 q2 q3 (some ⟨tb,to',none⟩) 5 lc ((sx,sy,su,sv)::l) (some ⟨yb,yo,none⟩) yn yc Q Z (312+2*rs.length) U∧Own TRd 82 Z U u13 rs∧Box U q16 #[.int .i64 o.kind,.int .i64 o.station,.int .i64 o.catalog,.int .i64 o.tick,.int .i64 o.dx,.int .i64 o.dy,.int .i64 o.err,.int .i64 o.far,.int .i64 o.wide,.int .i64 o.cost,.bool o.sure] 50∧Box U qv #[.int .i64 (st.1),.int .i64 (st.2.1)] 48) ⟨H7.out.1.up HUP.out,H7.out.2.1.up HUP.out,H7.out.2.2.up HUP.out,(HBV.out.set 0 _).set 1 _⟩ ?_
        clear H7 H8 HUP HBV HU8 s0 s1 s2 s3 ls f0 f1 f2 f3 f4 f5 f6 f7 f8 f9 f10 lf fv0 fv1 lv v0' v1'
        rintro U9 ⟨h9,o9,b9,v9⟩
        refine (HRD.out false _ _ h9.w.r (h9.w.l.more fun b hb=>hb.1) (by omega)).mono ?_
        rintro _ U10 ⟨_,rfl,⟨ri,rx,rfl,hag,hri⟩,hR10,hg10⟩
        have H10:=hide (And.intro (h9.next hR10 hg10 HKB.out q12.1 q12.2.1 q12.2.2) (And.intro (show Own TRd 82 Z U10 u13 rs from ownsRow_keeps (K:=fun g=>u13.ownBlock=some g) o9 (Keeps.grown hg10 (fun b hb=>by have:=(o9.lt b hb).1;omega)) fun _ e=>e) (And.intro (b9.grown hg10 (by simp;omega)) (v9.grown hg10 (by simp;omega)))))
        clear h9 o9 b9 v9 hR10 hg10 HRD
        obtain ⟨s0,s1,s2,s3⟩:=(H10.out.1.w.s).c4
        have ls:=(H10.out.1.w.s).lt
        obtain ⟨f0,f1,f2,f3,f4,f5,f6,f7,f8,f9,f10⟩:=(H10.out.2.2.1).c11
        have lf:=(H10.out.2.2.1).lt
        obtain ⟨p0,p1⟩:=(H10.out.2.2.2).c2
        have lp:=(H10.out.2.2.2).lt
        have HAG:=hide (fun W (hu:Up U10 W)=>wAgrees_any (H10.out.1.w.l.up hu) o ri rx (st.1,st.2.1))
        rw [hhome,hag] at HAG
        unfold offA at HAG
        rw [hsu] at HAG
        go_wp2_with fail
        go_at_call 30
        refine (HAG.out _ Up.go).mono ?_
        intro pa
        clear HAG
        have HW10:=hide (H10.out.1.w.r.up HUB.out.1 hBw)
        have HGI:=hide (And.intro hag hri)
        clear hag hri
        obtain ⟨va,vc,hv⟩:=H10.out.2.1.form
        subst hv
        have hZ10:Z≤U10.heap.size:=by have:=H10.out.2.2.1.lt;omega
        by_cases hr0:ri=0
        · subst hr0
          go_wp2_with (go_at_call 11;(with_reducible refine (HA.out _).mono ?_);intro _)
          go_ret
          exact ⟨rfl,HW10.out.trans Up.go⟩
        · have hrb:(ri==0)=false:=by simpa using hr0
          go_wp2_with (at_builtin;with_reducible refine stopA rfl ?_)
          refine hide ?_
          refine wpList_pushG elem_rdg rfl (.tmp 115) (.tmp 117) rfl (w0:=w) (base:=Z) (HW10.out.trans Up.go) (by omega) (Nat.le_trans hZ10 (by simp <;> omega)) rfl (H10.out.2.1.up Up.go) (by omega) (by decide) ((ri,rx):Int×Int) rfl (show Box _ _ #[.int .i64 ri,.int .i64 rx] _ from Box.mk (by simp)) ?_
          intro g cap W' hu' ho hgr
          have HP:=hide ((H10.out.1.up Up.go).push hgr (fun g hg=>(H10.out.2.1.lt g hg).1) HQZ.out.1 HQZ.out.2.1 HQZ.out.2.2.1 HQZ.out.2.2.2.1)
          have HO:=hide (And.intro ho (Nat.le_trans hZ10 (Nat.le_trans (by simp <;> omega) hgr.size)))
          clear H10 hu' ho hgr s0 s1 s2 s3 ls f0 f1 f2 f3 f4 f5 f6 f7 f8 f9 f10 lf p0 p1 lp
          go_wp2
          go_roundw
          case rel =>
           refine ⟨rs.length+1,f,rs++[(ri,rx)],by omega,by go_num,by go_num,hf3,by simp,hide ?_,hide ⟨?_,?_,Nat.le_trans HO.out.2 (by simp <;> omega)⟩⟩
           · have h:=HRO.out.push (j:=j) (o:=o) (r:=(ri,rx)) HOO.out.1 HOO.out.2 HGI.out.2 (by rw [List.getD,HST.out];exact HGI.out.1) (fun e=>by first|exact hsu|exact absurd e hr0)
             dsimp only at h
             rw [if_neg hr0] at h
             exact h
           · rw [show (312:Int)+2*((rs.length+1:Nat):Int)=312+2*rs.length+2 by omega]
             exact HP.out.up Up.go
           · exact HO.out.1.up Up.go
          case measure=>simp [intOf];omega
    · skip
      rw [hsu] at HRD
      go_wp2_with fail
      go_at_call 29
      rw [← hBB]
      have HUP:=hide ((HU8.out.setCell (q:=⟨qv,0,none⟩) hqv (.int .i64 st.1)).setCell (q:=⟨qv,1,none⟩) hqv (.int .i64 st.2.1))
      refine forgetC (fun U=>WpL V B K a n c sa sn sc ca cn cc s home d ba bn bc set (some ⟨ob,oo,none⟩) on oc offers sx sy su sv q1 q2 q3 (some ⟨tb,to',none⟩) 5 lc ((sx,sy,su,sv)::l) (some ⟨yb,yo,none⟩) yn yc Q Z (312+2*rs.length) U∧Own TRd 82 Z U u13 rs∧Box U q16 #[.int .i64 o.kind,.int .i64 o.station,.int .i64 o.catalog,.int .i64 o.tick,.int .i64 o.dx,.int .i64 o.dy,.int .i64 o.err,.int .i64 o.far,.int .i64 o.wide,.int .i64 o.cost,.bool o.sure] 50∧Box U qv #[.int .i64 (st.1),.int .i64 (st.2.1)] 48) ⟨H7.out.1.up HUP.out,H7.out.2.1.up HUP.out,H7.out.2.2.up HUP.out,(HBV.out.set 0 _).set 1 _⟩ ?_
      clear H7 H8 HUP HBV HU8 s0 s1 s2 s3 ls f0 f1 f2 f3 f4 f5 f6 f7 f8 f9 f10 lf fv0 fv1 lv v0' v1'
      rintro U9 ⟨h9,o9,b9,v9⟩
      refine (HRD.out false _ _ h9.w.r (h9.w.l.more fun b hb=>hb.1) (by omega)).mono ?_
      rintro _ U10 ⟨_,rfl,⟨ri,rx,rfl,hag,hri⟩,hR10,hg10⟩
      have H10:=hide (And.intro (h9.next hR10 hg10 HKB.out q12.1 q12.2.1 q12.2.2) (And.intro (show Own TRd 82 Z U10 u13 rs from ownsRow_keeps (K:=fun g=>u13.ownBlock=some g) o9 (Keeps.grown hg10 (fun b hb=>by have:=(o9.lt b hb).1;omega)) fun _ e=>e) (And.intro (b9.grown hg10 (by simp;omega)) (v9.grown hg10 (by simp;omega)))))
      clear h9 o9 b9 v9 hR10 hg10 HRD
      obtain ⟨s0,s1,s2,s3⟩:=(H10.out.1.w.s).c4
      have ls:=(H10.out.1.w.s).lt
      obtain ⟨f0,f1,f2,f3,f4,f5,f6,f7,f8,f9,f10⟩:=(H10.out.2.2.1).c11
      have lf:=(H10.out.2.2.1).lt
      obtain ⟨p0,p1⟩:=(H10.out.2.2.2).c2
      have lp:=(H10.out.2.2.2).lt
      have HAG:=hide (fun W (hu:Up U10 W)=>wAgrees_any (H10.out.1.w.l.up hu) o ri rx (st.1,st.2.1))
      rw [hhome,hag] at HAG
      unfold offA at HAG
      rw [hsu] at HAG
      go_wp2_with fail
      go_at_call 30
      refine (HAG.out _ Up.go).mono ?_
      intro pa
      clear HAG
      have HW10:=hide (H10.out.1.w.r.up HUB.out.1 hBw)
      have HGI:=hide (And.intro hag hri)
      clear hag hri
      obtain ⟨va,vc,hv⟩:=H10.out.2.1.form
      subst hv
      have hZ10:Z≤U10.heap.size:=by have:=H10.out.2.2.1.lt;omega
      by_cases hr0:ri=0
      · subst hr0
        go_wp2_with (go_at_call 11;(with_reducible refine (HA.out _).mono ?_);intro _)
        go_ret
        exact ⟨rfl,HW10.out.trans Up.go⟩
      · have hrb:(ri==0)=false:=by simpa using hr0
        go_wp2_with (at_builtin;with_reducible refine stopA rfl ?_)
        refine hide ?_
        refine wpList_pushG elem_rdg rfl (.tmp 115) (.tmp 117) rfl (w0:=w) (base:=Z) (HW10.out.trans Up.go) (by omega) (Nat.le_trans hZ10 (by simp <;> omega)) rfl (H10.out.2.1.up Up.go) (by omega) (by decide) ((ri,rx):Int×Int) rfl (show Box _ _ #[.int .i64 ri,.int .i64 rx] _ from Box.mk (by simp)) ?_
        intro g cap W' hu' ho hgr
        have HP:=hide ((H10.out.1.up Up.go).push hgr (fun g hg=>(H10.out.2.1.lt g hg).1) HQZ.out.1 HQZ.out.2.1 HQZ.out.2.2.1 HQZ.out.2.2.2.1)
        have HO:=hide (And.intro ho (Nat.le_trans hZ10 (Nat.le_trans (by simp <;> omega) hgr.size)))
        clear H10 hu' ho hgr s0 s1 s2 s3 ls f0 f1 f2 f3 f4 f5 f6 f7 f8 f9 f10 lf p0 p1 lp
        go_wp2
        go_roundw
        case rel =>
         refine ⟨rs.length+1,f,rs++[(ri,rx)],by omega,by go_num,by go_num,hf3,by simp,hide ?_,hide ⟨?_,?_,Nat.le_trans HO.out.2 (by simp <;> omega)⟩⟩
         · have h:=HRO.out.push (j:=j) (o:=o) (r:=(ri,rx)) HOO.out.1 HOO.out.2 HGI.out.2 (by rw [List.getD,HST.out];exact HGI.out.1) (fun e=>by first|exact hsu|exact absurd e hr0)
           dsimp only at h
           rw [if_neg hr0] at h
           exact h
         · rw [show (312:Int)+2*((rs.length+1:Nat):Int)=312+2*rs.length+2 by omega]
           exact HP.out.up Up.go
         · exact HO.out.1.up Up.go
        case measure=>simp [intOf];omega
  · have hkb:decide ((rs.length:Int)<yn)=false:=by simp;omega
    have hkn:decide (rs.length<yn)=false:=by simp;omega
    obtain rfl:yn=rs.length:=by omega
    obtain ⟨va,vc,hv⟩:=HJ.out.2.1.form
    subst hv
    have hen:=wpr_end HSM.out HE.out.symm (X:=choice) (by rw [hhome];exact HTV.out.symm) hl4 HOE.out (by rw [← HON.out.1];exact HQ.out) HRO.out (by have:=HYN.out;omega) HSK.out
    obtain ⟨LL,hLL⟩:∃ L,L=leftL (tabV s d 0 set offers) Q rs set.length:=⟨_,rfl⟩
    obtain ⟨R,hR⟩:∃ R,R=worstT (tabV s d 0 set offers) (sureO offers) set.length f Q:=⟨_,rfl⟩
    rw [← hLL,← hR] at hen
    have HEN:=hide hen
    have HRR:=hide hR
    clear hen hLL hR HRO
    have HLF:=hide (fun W (hu:Up wr W)=>wLeft_any (HJ.out.1.w.l.up hu) d 0 (HJ.out.1.w.b.keeps (hu.keeps _)) (HJ.out.1.w.o.up hu) (HJ.out.1.c.up hu) ((HJ.out.2.1.up hu).lies (by omega)))
    rw [hhome,HEN.out.1] at HLF
    obtain ⟨s0,s1,s2,s3⟩:=(HJ.out.1.w.s).c4
    have ls:=(HJ.out.1.w.s).lt
    obtain ⟨d0,d1,d2,d3,d4⟩:=(HJ.out.1.w.d).c5
    have ld:=(HJ.out.1.w.d).lt
    go_wp2_with fail
    go_at_call 31
    refine (HLF.out _ Up.go).mono ?_
    rintro _ W8 ⟨ga,gn,gc,gp,rfl,hlg,hW8⟩
    have hu8:Up wr W8:=by rw [hW8];exact Up.go
    obtain rfl:=(Ints.at hlg).1
    have HL8:=hide hlg
    have H8:=hide (HJ.out.1.up hu8)
    clear HLF hW8 hu8 hlg HJ s0 s1 s2 s3 ls d0 d1 d2 d3 d4 ld
    obtain ⟨s0,s1,s2,s3⟩:=(H8.out.w.s).c4
    have ls:=(H8.out.w.s).lt
    obtain ⟨d0,d1,d2,d3,d4⟩:=(H8.out.w.d).c5
    have ld:=(H8.out.w.d).lt
    have HWS:=hide (fun W (hu:Up W8 W)=>worst_chosen HD hhome (H8.out.w.l.up hu) d (H8.out.w.b.keeps (hu.keeps _)) (H8.out.w.o.up hu) (X:=choice) (by rw [← HQ.out];exact H8.out.c.up hu) HE.out.symm f hf3 (R:=R) (by rw [← HQ.out];exact HRR.out))
    dsimp only
    go_wp2_with fail
    go_at_call 13
    refine (HWS.out _ Up.go).mono ?_
    intro pw
    have hle:=HEN.out.2.1
    have hr1:decide ((R:Int)<LL.length)=false:=by simp;omega
    have hr2:decide (R<LL.length)=false:=by simp;omega
    have hbnm:=(Boxes.at H8.out.w.b).2.1
    have HH:=hide (fun (b:BoxD) W=>oholds_any b (sx,sy,su,sv) W)
    have HI:=hide (fun (x:Int) W (hu:Up W8 W)=>hasint_any (HL8.out.up hu) x)
    have HUW:=hide (H8.out.w.r.up HUB.out.1 hBw)
    unfold boxA at HH
    go_wp2_with fail
    go_loopw [23] (fun s23 wr=>∃ (i:Nat),i≤bn∧s23=.int .i64 i∧Hid (Up W8 wr)) (fun s23 _=>bn - (intOf s23).toNat)
    case atStart=>exact ⟨0,by omega,rfl,hide Up.go⟩
    case round =>
     obtain ⟨i,hi,rfl,HJ⟩:=hrel
     by_cases hlt:i<bn
     · have hkb2:decide ((i:Int)<bn)=true:=by simp;omega
       have hkn2:decide (i<bn)=true:=by simp;omega
       obtain ⟨gb,go,x,rfl,hKx,hxw,hxs,k0,k1,k2,k3,k4,k5,k6,k7⟩:=(Boxes.at (H8.out.w.b.keeps (HJ.out.keeps _))).2.2 i hlt
       obtain ⟨x0,x1,x2,x3⟩:=(H8.out.w.x.up HJ.out).c4
       have lx:=(H8.out.w.x.up HJ.out).lt
       have HHx:=hide (HH.out x)
       have hyes:=HEN.out.2.2 i x hxs
       rcases hhb:holdsB x (sx,sy,su,sv) with _ | _
       · rw [hhb] at HHx
         go_wp2_with fail
         ((first | with_reducible refine wp_region_ext2 (by kernel_rfl) (by kernel_rfl) ?_ | refine wp_region_ext (by kernel_rfl) (by kernel_rfl) ?_);(repeat (go_big_quiet_step ((go_at_call 32;with_reducible exact Gives.inRegion (HHx.out _)))));refine wpQuiet_nil ?_;intro _ hw';obtain ⟨_,hw''⟩:=hw';subst hw'')
         go_wp2_with fail
         go_roundw
         case rel=>exact ⟨i+1,by omega,by go_num,hide (HJ.out.trans Up.go)⟩
         case measure=>simp [intOf];omega
       · rw [hhb] at HHx
         have HIx:=hide (fun W (hu:∃ p,W=ext wr p)=>HI.out i W (HJ.out.trans hu))
         rw [hyes hhb] at HIx
         go_wp2_with fail
         ((first | with_reducible refine wp_region_ext2 (by kernel_rfl) (by kernel_rfl) ?_ | refine wp_region_ext (by kernel_rfl) (by kernel_rfl) ?_);(repeat (go_big_quiet_step ((first | (go_at_call 32;with_reducible exact Gives.inRegion (HHx.out _)) | (go_at_call 33;with_reducible exact Gives.inRegion (HIx.out _ (by first | exact ⟨_,rfl⟩ | assumption)))))));refine wpQuiet_nil ?_;intro _ hw';obtain ⟨_,hw''⟩:=hw';subst hw'')
         go_wp2_with fail
         go_roundw
         case rel=>exact ⟨i+1,by omega,by go_num,hide (HJ.out.trans Up.go)⟩
         case measure=>simp [intOf];omega
     · have hkb2:decide ((i:Int)<bn)=false:=by simp;omega
       have hkn2:decide (i<bn)=false:=by simp;omega
       go_wp2_with (go_at_call 11;(with_reducible refine (HA.out _).mono ?_);intro _)
       go_ret
       exact ⟨rfl,HUW.out.trans (HJ.out.trans Up.go)⟩
end Go.Proofs.YteafglginnonnaaGreat
