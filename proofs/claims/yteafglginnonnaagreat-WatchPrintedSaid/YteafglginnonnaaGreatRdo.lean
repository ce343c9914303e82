/- bolidekit.ReadingOf: a reading made of numbers, with which the place agrees. Conditions: a right offer, a place within its limits, what lies in memory. -/
import Derived.Test.YteafglginnonnaaGreatVO
import Derived.Test.YteafglginnonnaaGreatVG
import Derived.Test.YteafglginnonnaaGreatSuc
import Derived.Test.YteafglginnonnaaGreatTree
import Derived.Test.YteafglginnonnaaGreatMade
set_option linter.unusedVariables false
set_option linter.unusedSimpArgs false
namespace Go.Proofs.YteafglginnonnaaGreat
open Go.RowKit Go.Shelf
structure RdS (V:World) (B:Nat) (nn:Int) (K:Nat→Prop) (a:Option Addr) (n c:Nat) (sa:Option Addr) (sn sc:Nat) (ca:Option Addr) (cn cc:Nat) (s:SkyD) (home:Int) (o:OffD) (x y:Int) (q0 q1 q2 q3:Nat) (U:World):Prop where
 r:RingAt V B nn U
 l:SkyL K U a n c sa sn sc ca cn cc s
 b0:Box U q0 #[.slice a n c,.int .i64 home,.slice sa sn sc,.slice ca cn cc] 29
 b1:Box U q1 #[.int .i64 o.kind,.int .i64 o.station,.int .i64 o.catalog,.int .i64 o.tick,.int .i64 o.dx,.int .i64 o.dy,.int .i64 o.err,.int .i64 o.far,.int .i64 o.wide,.int .i64 o.cost,.bool o.sure] 50
 b2:Box U q2 #[.int .i64 (x),.int .i64 (y)] 48
 b3:Box U q3 #[.int .i64 (0),.int .i64 (0)] 82
theorem RdS.up {V:World} {B:Nat} {nn:Int} {K:Nat→Prop} {a:Option Addr} {n c:Nat} {sa:Option Addr} {sn sc:Nat} {ca:Option Addr} {cn cc:Nat} {s:SkyD} {home:Int} {o:OffD} {x y:Int} {q0 q1 q2 q3:Nat} {U W:World} (h:RdS V B nn K a n c sa sn sc ca cn cc s home o x y q0 q1 q2 q3 U) (hu:Up U W):RdS V B nn K a n c sa sn sc ca cn cc s home o x y q0 q1 q2 q3 W:=⟨h.r.ofUp hu,h.l.up hu,h.b0.up hu,h.b1.up hu,h.b2.up hu,h.b3.up hu⟩
theorem RdS.next {V:World} {B:Nat} {nn:Int} {K:Nat→Prop} {a:Option Addr} {n c:Nat} {sa:Option Addr} {sn sc:Nat} {ca:Option Addr} {cn cc:Nat} {s:SkyD} {home:Int} {o:OffD} {x y:Int} {q0 q1 q2 q3:Nat} {mm:Int} {U W:World} (h:RdS V B nn K a n c sa sn sc ca cn cc s home o x y q0 q1 q2 q3 U) (hr:RingAt V B mm W) (hg:U.grownBy W (some B)) (hK:∀ b,K b→b≠B) (h0:B<q0∧B<q1∧B<q2∧B<q3):RdS V B mm K a n c sa sn sc ca cn cc s home o x y q0 q1 q2 q3 W :=
 ⟨hr,h.l.keeps (Keeps.grown hg hK),h.b0.grown hg (by simp;omega),h.b1.grown hg (by simp;omega),h.b2.grown hg (by simp;omega),h.b3.grown hg (by simp;omega)⟩
theorem reads_le {s:SkyD} {o:OffD} {q:Int×Int} {l1 l2:Int} (h:readsV s o q=((l1,l2),true)):l1≤l2:=by
 rcases reads_cases s o q with ⟨_,h2,h3⟩ | ⟨_,h3⟩
 · rw [h3] at h;cases h;exact h2
 · rw [h3] at h;cases h
def RRead (s:SkyD) (o:OffD) (p:Int×Int) (v:Value):Prop:=∃ i x:Int,v=.agg #[.int .i64 (i),.int .i64 (x)]∧agreesV s o i x p=true∧(i=0∨i=1∨i=2)
set_option maxRecDepth 100000 in
set_option maxHeartbeats 20000000 in
theorem readof_any {w:World} {sl:Value} (hN:Nums w sl) {B:Nat} (hB:w.heap.size≤B) {K:Nat→Prop} (hK:∀ b,K b→b≠B) {a:Option Addr} {n c:Nat} {sa:Option Addr} {sn sc:Nat} {ca:Option Addr} {cn cc:Nat} {s:SkyD} {o:OffD} (ho:offE s o=0) {x y:Int} (hp:PBd (x,y)) (f:Bool) {t:Int} {V:World} (hu:Up w V) (hb:Box V B #[sl,.int .i64 t] 98) (hL:SkyL K V a n c sa sn sc ca cn cc s) (t0:0≤t) (t1:t+2≤100000) :
 Calls Tryz.prog 29 #[.pointer (some ⟨B,0,none⟩),.agg #[.slice a n c,.int .i64 s.home,.slice sa sn sc,.slice ca cn cc],.agg (offA o),.agg #[.int .i64 (x),.int .i64 (y)],.bool f] V (RPost V B t 2 (RRead s o (x,y))):=by
 have KN:=hide (fun (m:Int) (m0:1≤m) (m1:m≤9223372036854775807) n U (hV:RingAt V B n U) (hn:n+1≤100000)=>(next_r hN hB m0 m1).at hu hb hB hV hn)
 have HR:=hide (RingAt.start (n:=t) hb t0 (by omega))
 have lB:=hb.lt
 have HK:=hide hK
 obtain ⟨home,hhome⟩:∃ h,s.home=h:=⟨_,rfl⟩
 have HF:=hide (fun (U:World) (h:SkyL K U a n c sa sn sc ca cn cc s)=>vField_any h o (x,y))
 have HRD:=hide (fun (U:World) (h:SkyL K U a n c sa sn sc ca cn cc s)=>vReads_any h o (x,y))
 rw [hhome] at HF HRD
 rw [hhome]
 obtain ⟨F,l1,l2,is,e1,e2,e3,e4,e5,e6,e7⟩:=reads_facts ho hp
 rw [e1] at HF
 rw [e2] at HRD
 have hle:is=true→l1≤l2:=fun h=>by subst h;exact reads_le e2
 dsimp only at HF HRD
 have HLE:=hide hle
 have HAG:=hide (And.intro e5 (And.intro e6 e7))
 have HLS:=hide hL
 have e40:=e4.1
 have e41:=e4.2
 clear hN hu hb hB hK hhome e1 e2 e4 e5 e6 e7 hle hL ho hp
 obtain ⟨q0,hq0⟩:∃ b,b=V.heap.size:=⟨_,rfl⟩
 obtain ⟨q1,hq1⟩:∃ b,b=V.heap.size+1:=⟨_,rfl⟩
 obtain ⟨q2,hq2⟩:∃ b,b=V.heap.size+1+1:=⟨_,rfl⟩
 obtain ⟨q3,hq3⟩:∃ b,b=V.heap.size+1+1+1:=⟨_,rfl⟩
 have hqs:B<q0∧B<q1∧B<q2∧B<q3:=by omega
 have hqv:V.heap.size≤q3:=by omega
 have hqd:q0≠q3∧q1≠q3∧q2≠q3:=by omega
 rcases f with _ | _
 · go_enter Tryz.func29,Tryz.ntmps29
   go_wp2_with fail
   go_at_call 69
   rw [← hq3,← hq2,← hq1,← hq0]
   refine forgetK (fun U=>RdS V B (t) K a n c sa sn sc ca cn cc s home o x y q0 q1 q2 q3 U) ⟨HR.out.ofUp Up.go,HLS.out.up Up.go,by rw [hq0];exact Box.go,by rw [hq1];exact Box.go,by rw [hq2];exact Box.go,by rw [hq3];exact Box.go⟩ ?_
   intro U1 h1
   have H1:=hide h1
   clear h1
   clear HR HLS hq0 hq1 hq2 hq3
   obtain ⟨s0,s1,s2,s3⟩:=(H1.out.b0).c4
   have ls:=(H1.out.b0).lt
   obtain ⟨f0,f1,f2,f3,f4,f5,f6,f7,f8,f9,f10⟩:=(H1.out.b1).c11
   have lf:=(H1.out.b1).lt
   obtain ⟨p0,p1⟩:=(H1.out.b2).c2
   have lp:=(H1.out.b2).lt
   obtain ⟨z0,z1⟩:=(H1.out.b3).c2
   have lz:=(H1.out.b3).lt
   obtain ⟨fz0,fz1⟩:=(H1.out.b3).f2
   refine (HF.out _ H1.out.l).mono ?_
   intro pf
   rcases F with _ | _
   · go_wp2_with fail
     refine forgetX (X:=bodyPost _ _ _ _ _) (fun WF=>RingAt V B (t) WF∧Box WF q3 #[.int .i64 (1),.int .i64 (0)] 82) ⟨((H1.out.r.set hqv _ _).set hqv _ _).ofUp Up.go,((H1.out.b3.set 0 (.int .i64 1)).set 1 (.int .i64 0)).up Up.go⟩ ?_
     rintro WF ⟨hR,hz⟩
     clear s0 s1 s2 s3 ls f0 f1 f2 f3 f4 f5 f6 f7 f8 f9 f10 lf p0 p1 lp z0 z1 lz fz0 fz1
     obtain ⟨z0,z1⟩:=hz.c2
     exact bodyPost_ret (v:=.agg #[.int .i64 (1),.int .i64 (0)]) (by simp [results,Tryz.results29,go_sem,z0,z1]) rfl (ring_at_out hR (by omega) ⟨1,0,rfl,by have:=HAG.out.2.1 0;simpa using this,.inr (.inl rfl)⟩)
   go_wp2_with fail
   go_at_call 70
   refine (HRD.out _ (H1.out.l.up Up.go)).mono ?_
   intro pr
   rcases is with _ | _
   · go_wp2_with fail
     refine forgetX (X:=bodyPost _ _ _ _ _) (fun WF=>RingAt V B (t) WF∧Box WF q3 #[.int .i64 (0),.int .i64 (0)] 82) ⟨((H1.out.r.set hqv _ _).set hqv _ _).ofUp Up.go,((H1.out.b3.set 0 (.int .i64 0)).set 1 (.int .i64 0)).up Up.go⟩ ?_
     rintro WF ⟨hR,hz⟩
     clear s0 s1 s2 s3 ls f0 f1 f2 f3 f4 f5 f6 f7 f8 f9 f10 lf p0 p1 lp z0 z1 lz fz0 fz1
     obtain ⟨z0,z1⟩:=hz.c2
     exact bodyPost_ret (v:=.agg #[.int .i64 (0),.int .i64 (0)]) (by simp [results,Tryz.results29,go_sem,z0,z1]) rfl (ring_at_out hR (by omega) ⟨0,0,rfl,HAG.out.2.2 0,.inl rfl⟩)
   have hle:=HLE.out rfl
   go_wp2_with fail
   obtain ⟨lb,hlb⟩:∃ b,b=U1.heap.size+(pf.plus pr).os.size:=⟨_,rfl⟩
   try rw [← hlb]
   refine forgetW (fun W=>(RdS V B (t) K a n c sa sn sc ca cn cc s home o x y q0 q1 q2 q3 W)∧Box W lb #[.int .i64 (l1),.int .i64 (l2)] 31) ⟨H1.out.up Up.go,by rw [hlb];exact Box.mk (ext_size _ _)⟩ ?_
   have hlq:q3<lb:=by have:=H1.out.b3.lt;omega
   have hlB:B<lb:=by omega
   clear H1 hlb s0 s1 s2 s3 ls f0 f1 f2 f3 f4 f5 f6 f7 f8 f9 f10 lf p0 p1 lp z0 z1 lz fz0 fz1
   intro W7 h7
   have H7:=hide h7
   clear h7
   have hS0:=hide (show Box W7.drew lb #[.int .i64 (l1),.int .i64 (l2)] 31 from H7.out.2.drew)
   refine wp_region_L (fun W'=>Box W' lb #[.int .i64 (l1),.int .i64 (l2)] 31) 5 (by kernel_rfl) ?_
   refine anyL_take 0 (v:=(.agg #[.int .i64 (l1),.int .i64 (l2)])) rfl (by kernel_rfl) (fun _ _ _ h=>h) (.inl ⟨rfl,fun W' hW'=>by have e0:=Box.cell hW' 0 rfl;have e1:=Box.cell hW' 1 rfl;simp [go_sem,e0,e1]⟩) hS0.out ?_
   simp only [Act.put,List.setIfInBounds_toArray,List.set_cons_zero,List.set_cons_succ]
   refine anyL_take 1 (v:=(.pointer (some ⟨B,0,none⟩))) rfl (by kernel_rfl) (fun _ _ _ h=>h) (.inl ⟨rfl,fun W' hW'=>by simp [go_sem]⟩) hS0.out ?_
   simp only [Act.put,List.setIfInBounds_toArray,List.set_cons_zero,List.set_cons_succ]
   refine anyL_one (i:=2) (by kernel_rfl) rfl (fun KK HKK=>?_)
   go_wp2_with fail
   go_at_call 34
   refine (KN.out 1048576 (by omega) (by omega) _ _ (H7.out.1.r.ofUp Up.go) (by omega)).mono ?_
   rintro _ W8 ⟨_,rfl,⟨X,X0,X1,rfl⟩,hR8,hg8⟩
   have hl8:=hS0.out.grown hg8 (by simp;omega)
   have H8:=hide (And.intro ((H7.out.1.up (Up.drew (Up.refl _))).next hR8 hg8 HK.out hqs) hl8)
   clear hS0 hl8 hR8 hg8 H7
   go_wp2_with fail
   refine HKK.out _ _ (fun _=>H8.out.2) ?_
   clear HKK
   obtain ⟨Z,Z0,Z1,KZ⟩:=inspan_any l1 l2 X (by omega) hle (by omega) (by omega)
   have KZ:=hide KZ
   refine anyL_one (i:=3) (by kernel_rfl) rfl (fun KK HKK=>?_)
   go_wp2_with fail
   go_at_call 71
   refine (KZ.out _).mono ?_
   intro pz
   go_wp2_with fail
   refine HKK.out _ _ (fun _=>H8.out.2.ext _) ?_
   clear HKK
   refine anyL_one (i:=4) (by kernel_rfl) rfl (fun KK HKK=>?_)
   go_wp2_with fail
   refine HKK.out _ _ (fun _=>H8.out.2.ext _) ?_
   clear HKK
   obtain ⟨s0,s1,s2,s3⟩:=(H8.out.1.b0).c4
   have ls:=(H8.out.1.b0).lt
   obtain ⟨f0,f1,f2,f3,f4,f5,f6,f7,f8,f9,f10⟩:=(H8.out.1.b1).c11
   have lf:=(H8.out.1.b1).lt
   obtain ⟨p0,p1⟩:=(H8.out.1.b2).c2
   have lp:=(H8.out.1.b2).lt
   obtain ⟨z0,z1⟩:=(H8.out.1.b3).c2
   have lz:=(H8.out.1.b3).lt
   obtain ⟨fz0,fz1⟩:=(H8.out.1.b3).f2
   refine anyL_one (i:=5) (by kernel_rfl) rfl (fun KK HKK=>?_)
   go_wp2_with fail
   refine HKK.out _ _ (fun h=>(h rfl).elim) ?_
   clear HKK
   refine anyL_done (by kernel_rfl) ?_
   go_wp2_with fail
   refine forgetX (X:=bodyPost _ _ _ _ _) (fun WF=>RingAt V B (t+1) WF∧Box WF q3 #[.int .i64 (2),.int .i64 (Z)] 82) ⟨(((H8.out.1.r.ofUp Up.go).set hqv _ _).set hqv _ _).ofUp Up.go,((((H8.out.1.b3.up Up.go)).set 0 (.int .i64 2)).set 1 (.int .i64 Z)).up Up.go⟩ ?_
   rintro WF ⟨hR,hz⟩
   clear s0 s1 s2 s3 ls f0 f1 f2 f3 f4 f5 f6 f7 f8 f9 f10 lf p0 p1 lp z0 z1 lz fz0 fz1
   obtain ⟨z0,z1⟩:=hz.c2
   exact bodyPost_ret (v:=.agg #[.int .i64 (2),.int .i64 (Z)]) (by simp [results,Tryz.results29,go_sem,z0,z1]) rfl (ring_at_out hR (by omega) ⟨2,Z,rfl,by rw [HAG.out.1];simp [withinB];omega,.inr (.inr rfl)⟩)
 · go_enter Tryz.func29,Tryz.ntmps29
   go_wp2_with fail
   go_at_call 34
   rw [← hq3,← hq2,← hq1,← hq0]
   refine forgetC (fun U=>RdS V B (t) K a n c sa sn sc ca cn cc s home o x y q0 q1 q2 q3 U) ⟨HR.out.ofUp Up.go,HLS.out.up Up.go,by rw [hq0];exact Box.go,by rw [hq1];exact Box.go,by rw [hq2];exact Box.go,by rw [hq3];exact Box.go⟩ ?_
   intro U1 h1
   have H1:=hide h1
   clear h1
   clear HR HLS hq0 hq1 hq2 hq3
   refine (KN.out 3 (by omega) (by omega) _ _ H1.out.r (by omega)).mono ?_
   rintro _ U2 ⟨_,rfl,⟨m,m0,m1,rfl⟩,hR2,hg2⟩
   have H2:=hide (H1.out.next hR2 hg2 HK.out hqs)
   clear H1 hR2 hg2
   by_cases hm:m=0
   · subst hm
     obtain ⟨s0,s1,s2,s3⟩:=(H2.out.b0).c4
     have ls:=(H2.out.b0).lt
     obtain ⟨f0,f1,f2,f3,f4,f5,f6,f7,f8,f9,f10⟩:=(H2.out.b1).c11
     have lf:=(H2.out.b1).lt
     obtain ⟨p0,p1⟩:=(H2.out.b2).c2
     have lp:=(H2.out.b2).lt
     obtain ⟨z0,z1⟩:=(H2.out.b3).c2
     have lz:=(H2.out.b3).lt
     obtain ⟨fz0,fz1⟩:=(H2.out.b3).f2
     go_wp2_with fail
     refine forgetX (X:=bodyPost _ _ _ _ _) (fun WF=>RingAt V B (t+1) WF∧Box WF q3 #[.int .i64 (0),.int .i64 (0)] 82) ⟨((H2.out.r.set hqv _ _).set hqv _ _).ofUp Up.go,((H2.out.b3.set 0 (.int .i64 0)).set 1 (.int .i64 0)).up Up.go⟩ ?_
     rintro WF ⟨hR,hz⟩
     clear s0 s1 s2 s3 ls f0 f1 f2 f3 f4 f5 f6 f7 f8 f9 f10 lf p0 p1 lp z0 z1 lz fz0 fz1
     obtain ⟨z0,z1⟩:=hz.c2
     exact bodyPost_ret (v:=.agg #[.int .i64 (0),.int .i64 (0)]) (by simp [results,Tryz.results29,go_sem,z0,z1]) rfl (ring_at_out hR (by omega) ⟨0,0,rfl,HAG.out.2.2 0,.inl rfl⟩)
   have hmb:(m==0)=false:=by simpa using hm
   clear hm
   obtain ⟨s0,s1,s2,s3⟩:=(H2.out.b0).c4
   have ls:=(H2.out.b0).lt
   obtain ⟨f0,f1,f2,f3,f4,f5,f6,f7,f8,f9,f10⟩:=(H2.out.b1).c11
   have lf:=(H2.out.b1).lt
   obtain ⟨p0,p1⟩:=(H2.out.b2).c2
   have lp:=(H2.out.b2).lt
   obtain ⟨z0,z1⟩:=(H2.out.b3).c2
   have lz:=(H2.out.b3).lt
   obtain ⟨fz0,fz1⟩:=(H2.out.b3).f2
   go_wp2_with fail
   go_at_call 69
   refine (HF.out _ H2.out.l).mono ?_
   intro pf
   rcases F with _ | _
   · go_wp2_with fail
     refine forgetX (X:=bodyPost _ _ _ _ _) (fun WF=>RingAt V B (t+1) WF∧Box WF q3 #[.int .i64 (1),.int .i64 (0)] 82) ⟨((H2.out.r.set hqv _ _).set hqv _ _).ofUp Up.go,((H2.out.b3.set 0 (.int .i64 1)).set 1 (.int .i64 0)).up Up.go⟩ ?_
     rintro WF ⟨hR,hz⟩
     clear s0 s1 s2 s3 ls f0 f1 f2 f3 f4 f5 f6 f7 f8 f9 f10 lf p0 p1 lp z0 z1 lz fz0 fz1
     obtain ⟨z0,z1⟩:=hz.c2
     exact bodyPost_ret (v:=.agg #[.int .i64 (1),.int .i64 (0)]) (by simp [results,Tryz.results29,go_sem,z0,z1]) rfl (ring_at_out hR (by omega) ⟨1,0,rfl,by have:=HAG.out.2.1 0;simpa using this,.inr (.inl rfl)⟩)
   go_wp2_with fail
   go_at_call 70
   refine (HRD.out _ (H2.out.l.up Up.go)).mono ?_
   intro pr
   rcases is with _ | _
   · go_wp2_with fail
     refine forgetX (X:=bodyPost _ _ _ _ _) (fun WF=>RingAt V B (t+1) WF∧Box WF q3 #[.int .i64 (0),.int .i64 (0)] 82) ⟨((H2.out.r.set hqv _ _).set hqv _ _).ofUp Up.go,((H2.out.b3.set 0 (.int .i64 0)).set 1 (.int .i64 0)).up Up.go⟩ ?_
     rintro WF ⟨hR,hz⟩
     clear s0 s1 s2 s3 ls f0 f1 f2 f3 f4 f5 f6 f7 f8 f9 f10 lf p0 p1 lp z0 z1 lz fz0 fz1
     obtain ⟨z0,z1⟩:=hz.c2
     exact bodyPost_ret (v:=.agg #[.int .i64 (0),.int .i64 (0)]) (by simp [results,Tryz.results29,go_sem,z0,z1]) rfl (ring_at_out hR (by omega) ⟨0,0,rfl,HAG.out.2.2 0,.inl rfl⟩)
   have hle:=HLE.out rfl
   go_wp2_with fail
   obtain ⟨lb,hlb⟩:∃ b,b=U2.heap.size+(pf.plus pr).os.size:=⟨_,rfl⟩
   try rw [← hlb]
   refine forgetW (fun W=>(RdS V B (t+1) K a n c sa sn sc ca cn cc s home o x y q0 q1 q2 q3 W)∧Box W lb #[.int .i64 (l1),.int .i64 (l2)] 31) ⟨H2.out.up Up.go,by rw [hlb];exact Box.mk (ext_size _ _)⟩ ?_
   have hlq:q3<lb:=by have:=H2.out.b3.lt;omega
   have hlB:B<lb:=by omega
   clear H2 hlb s0 s1 s2 s3 ls f0 f1 f2 f3 f4 f5 f6 f7 f8 f9 f10 lf p0 p1 lp z0 z1 lz fz0 fz1
   intro W7 h7
   have H7:=hide h7
   clear h7
   have hS0:=hide (show Box W7.drew lb #[.int .i64 (l1),.int .i64 (l2)] 31 from H7.out.2.drew)
   refine wp_region_L (fun W'=>Box W' lb #[.int .i64 (l1),.int .i64 (l2)] 31) 5 (by kernel_rfl) ?_
   refine anyL_take 0 (v:=(.agg #[.int .i64 (l1),.int .i64 (l2)])) rfl (by kernel_rfl) (fun _ _ _ h=>h) (.inl ⟨rfl,fun W' hW'=>by have e0:=Box.cell hW' 0 rfl;have e1:=Box.cell hW' 1 rfl;simp [go_sem,e0,e1]⟩) hS0.out ?_
   simp only [Act.put,List.setIfInBounds_toArray,List.set_cons_zero,List.set_cons_succ]
   refine anyL_take 1 (v:=(.pointer (some ⟨B,0,none⟩))) rfl (by kernel_rfl) (fun _ _ _ h=>h) (.inl ⟨rfl,fun W' hW'=>by simp [go_sem]⟩) hS0.out ?_
   simp only [Act.put,List.setIfInBounds_toArray,List.set_cons_zero,List.set_cons_succ]
   refine anyL_one (i:=2) (by kernel_rfl) rfl (fun KK HKK=>?_)
   go_wp2_with fail
   go_at_call 34
   refine (KN.out 1048576 (by omega) (by omega) _ _ (H7.out.1.r.ofUp Up.go) (by omega)).mono ?_
   rintro _ W8 ⟨_,rfl,⟨X,X0,X1,rfl⟩,hR8,hg8⟩
   have hl8:=hS0.out.grown hg8 (by simp;omega)
   have H8:=hide (And.intro ((H7.out.1.up (Up.drew (Up.refl _))).next hR8 hg8 HK.out hqs) hl8)
   clear hS0 hl8 hR8 hg8 H7
   go_wp2_with fail
   refine HKK.out _ _ (fun _=>H8.out.2) ?_
   clear HKK
   obtain ⟨Z,Z0,Z1,KZ⟩:=inspan_any l1 l2 X (by omega) hle (by omega) (by omega)
   have KZ:=hide KZ
   refine anyL_one (i:=3) (by kernel_rfl) rfl (fun KK HKK=>?_)
   go_wp2_with fail
   go_at_call 71
   refine (KZ.out _).mono ?_
   intro pz
   go_wp2_with fail
   refine HKK.out _ _ (fun _=>H8.out.2.ext _) ?_
   clear HKK
   refine anyL_one (i:=4) (by kernel_rfl) rfl (fun KK HKK=>?_)
   go_wp2_with fail
   refine HKK.out _ _ (fun _=>H8.out.2.ext _) ?_
   clear HKK
   obtain ⟨s0,s1,s2,s3⟩:=(H8.out.1.b0).c4
   have ls:=(H8.out.1.b0).lt
   obtain ⟨f0,f1,f2,f3,f4,f5,f6,f7,f8,f9,f10⟩:=(H8.out.1.b1).c11
   have lf:=(H8.out.1.b1).lt
   obtain ⟨p0,p1⟩:=(H8.out.1.b2).c2
   have lp:=(H8.out.1.b2).lt
   obtain ⟨z0,z1⟩:=(H8.out.1.b3).c2
   have lz:=(H8.out.1.b3).lt
   obtain ⟨fz0,fz1⟩:=(H8.out.1.b3).f2
   refine anyL_one (i:=5) (by kernel_rfl) rfl (fun KK HKK=>?_)
   go_wp2_with fail
   refine HKK.out _ _ (fun h=>(h rfl).elim) ?_
   clear HKK
   refine anyL_done (by kernel_rfl) ?_
   go_wp2_with fail
   refine forgetX (X:=bodyPost _ _ _ _ _) (fun WF=>RingAt V B (t+1+1) WF∧Box WF q3 #[.int .i64 (2),.int .i64 (Z)] 82) ⟨(((H8.out.1.r.ofUp Up.go).set hqv _ _).set hqv _ _).ofUp Up.go,((((H8.out.1.b3.up Up.go)).set 0 (.int .i64 2)).set 1 (.int .i64 Z)).up Up.go⟩ ?_
   rintro WF ⟨hR,hz⟩
   clear s0 s1 s2 s3 ls f0 f1 f2 f3 f4 f5 f6 f7 f8 f9 f10 lf p0 p1 lp z0 z1 lz fz0 fz1
   obtain ⟨z0,z1⟩:=hz.c2
   exact bodyPost_ret (v:=.agg #[.int .i64 (2),.int .i64 (Z)]) (by simp [results,Tryz.results29,go_sem,z0,z1]) rfl (ring_at_out hR (by omega) ⟨2,Z,rfl,by rw [HAG.out.1];simp [withinB];omega,.inr (.inr rfl)⟩)
end Go.Proofs.YteafglginnonnaaGreat
