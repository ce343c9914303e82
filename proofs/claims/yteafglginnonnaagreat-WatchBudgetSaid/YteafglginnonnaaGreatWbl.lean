/- The law of WatchBudget, walked. Conditions: what lies in memory. -/
import Derived.Test.YteafglginnonnaaGreatWof
import Derived.Test.YteafglginnonnaaGreatWml
import Derived.Test.YteafglginnonnaaGreatW6b
import Derived.Test.YteafglginnonnaaGreatVI
set_option linter.unusedVariables false
set_option linter.unusedSimpArgs false
namespace Go.Proofs.YteafglginnonnaaGreat
open Go.RowKit Go.Shelf
structure WbR (V:World) (B:Nat) (K:Nat→Prop) (a:Option Addr) (n c:Nat) (sa:Option Addr) (sn sc:Nat) (ca:Option Addr) (cn cc:Nat) (s:SkyD) (home:Int) (d:DriftD) (ba:Option Addr) (bn bc:Nat) (set:List BoxD) (oa:Option Addr) (on oc:Nat) (offers:List OffD) (q1 q2:Nat) (nn:Int) (U:World):Prop where
 r:RingAt V B nn U
 l:SkyL K U a n c sa sn sc ca cn cc s
 b:Boxes K U (.slice ba bn bc) set
 o:Lst TOff K U (.slice oa on oc) offers
 s:Box U q1 #[.slice a n c,.int .i64 home,.slice sa sn sc,.slice ca cn cc] 29
 d:Box U q2 #[.int .i64 (d.l.1),.int .i64 (d.l.2),.int .i64 (d.h.1),.int .i64 (d.h.2),.int .i64 (d.g)] 33
theorem WbR.next {V:World} {B:Nat} {K:Nat→Prop} {a:Option Addr} {n c:Nat} {sa:Option Addr} {sn sc:Nat} {ca:Option Addr} {cn cc:Nat} {s:SkyD} {home:Int} {d:DriftD} {ba:Option Addr} {bn bc:Nat} {set:List BoxD} {oa:Option Addr} {on oc:Nat} {offers:List OffD} {q1 q2:Nat} {nn mm:Int} {U W:World} (h:WbR V B K a n c sa sn sc ca cn cc s home d ba bn bc set oa on oc offers q1 q2 nn U) (hr:RingAt V B mm W) (hg:U.grownBy W (some B)) (hK:∀ b,K b→b≠B) (h1:q1≠B) (h2:q2≠B):WbR V B K a n c sa sn sc ca cn cc s home d ba bn bc set oa on oc offers q1 q2 mm W :=
 ⟨hr,h.l.keeps (Keeps.grown hg hK),h.b.keeps (Keeps.grown hg hK),h.o.keeps (Keeps.grown hg hK),h.s.grown hg (fun e=>h1 (Option.some.inj e).symm),h.d.grown hg (fun e=>h2 (Option.some.inj e).symm)⟩
theorem best_at (HD:DelC) {K:Nat→Prop} {w:World} {a sa ca:Option Addr} {n c sn sc cn cc:Nat} {s:SkyD} {home:Int} (hh:s.home=home) (hL:SkyL K w a n c sa sn sc ca cn cc s) (d:DriftD) {KB:Nat→Prop} {ba:Option Addr} {bn bc:Nat} {set:List BoxD} (hB:Boxes KB w (.slice ba bn bc) set) {KO:Nat→Prop} {oa:Option Addr} {on oc:Nat} {offers:List OffD} (hO:Lst TOff KO w (.slice oa on oc) offers) (hE:watchE s d 0 set offers=0) {mb g bud:Int} (hb:0≤bud∧bud≤1000) (hm:0≤mb∧mb<s.bodies.length) (hg:0≤g∧g≤1000000) {f:Nat} (hf:f≤3) {R:Int} {l:List Int} (hR:(bestF s d 0 set offers mb g bud f (2^offers.length)).left=R) (hl:(bestF s d 0 set offers mb g bud f (2^offers.length)).ch=l) :
 Calls Tryz.prog 24 #[.agg #[.slice a n c,.int .i64 home,.slice sa sn sc,.slice ca cn cc],.agg #[.int .i64 (d.l.1),.int .i64 (d.l.2),.int .i64 (d.h.1),.int .i64 (d.h.2),.int .i64 (d.g)],.int .i64 0,.slice ba bn bc,.slice oa on oc,.agg #[.int .i64 (mb),.int .i64 (g)],.int .i64 bud,.int .i64 f] w (GivesBest w l R 0):=by
 have h:=wBest_any HD hL d 0 hB hO mb g bud f
 have e:bestE s d 0 set offers mb g bud f=0:=by
  unfold bestE
  rw [if_pos hE,if_pos ⟨by simp [withinB];omega,by simp [withinB];omega⟩,if_pos hm,if_pos (by simp [withinB];omega)]
 unfold bestV at h
 rw [e,if_pos rfl,Int.toNat_natCast,hR,hl,hh] at h
 exact h
theorem darkV_ok {s:SkyD} {o:OffD} {m g:Int} (h:offE s o=0) (hm:0≤m∧m<s.bodies.length) (hg:0≤g∧g≤1000000):darkV s o m g=darkK s o m g:=by
 unfold darkV
 rw [decide_eq_true h,decide_eq_true hm.1,decide_eq_true hm.2,show withinB g 0 1000000=true by simp [withinB];omega]
 simp
theorem take_next {l:List Int} {k:Nat} {p:Int} (h:l[k]?=some p):l.take (k+1)=l.take k++[p]:=by rw [List.take_add_one,h];rfl
theorem cost_next {offers:List OffD} {l:List Int} {k j:Nat} {o:OffD} (h:l[k]?=some (j:Int)) (ho:offers[j]?=some o):costL offers (l.take (k+1))=costL offers (l.take k)+o.cost:=by
 rw [take_next h,costL_add,costL_one,costO_at ho]
theorem dark_next {s:SkyD} {offers:List OffD} {m g:Int} {l:List Int} {k j:Nat} {o:OffD} (h:l[k]?=some (j:Int)) (ho:offers[j]?=some o):darkL s offers m g (l.take (k+1))=(darkL s offers m g (l.take k)&&darkK s o m g):=by
 rw [take_next h,darkL_add,darkL_one,darkO_at ho]
theorem dark_at {s:SkyD} {offers:List OffD} {m g:Int} {l:List Int} {j:Nat} {o:OffD} (h:darkL s offers m g l=true) (hj:(j:Int)∈l) (ho:offers[j]?=some o):darkK s o m g=true:=by
 have h1:=List.all_eq_true.1 h _ hj
 rw [darkO_at ho] at h1
 exact h1
structure WbS (w:World) (K:Nat→Prop) (a:Option Addr) (n c:Nat) (sa:Option Addr) (sn sc:Nat) (ca:Option Addr) (cn cc:Nat) (s:SkyD) (home:Int) (d:DriftD) (ba:Option Addr) (bn bc:Nat) (set:List BoxD) (oa:Option Addr) (on oc:Nat) (offers:List OffD) (q1 q2:Nat) (q4:Nat) (mb g:Int) (U:World):Prop where
 u:Up w U
 l:SkyL K U a n c sa sn sc ca cn cc s
 b:Boxes K U (.slice ba bn bc) set
 o:Lst TOff K U (.slice oa on oc) offers
 s:Box U q1 #[.slice a n c,.int .i64 home,.slice sa sn sc,.slice ca cn cc] 29
 d:Box U q2 #[.int .i64 (d.l.1),.int .i64 (d.l.2),.int .i64 (d.h.1),.int .i64 (d.h.2),.int .i64 (d.g)] 33
 m:Box U q4 #[.int .i64 (mb),.int .i64 (g)] 71
theorem WbS.up {w:World} {K:Nat→Prop} {a:Option Addr} {n c:Nat} {sa:Option Addr} {sn sc:Nat} {ca:Option Addr} {cn cc:Nat} {s:SkyD} {home:Int} {d:DriftD} {ba:Option Addr} {bn bc:Nat} {set:List BoxD} {oa:Option Addr} {on oc:Nat} {offers:List OffD} {q1 q2:Nat} {q4:Nat} {mb g:Int} {U V:World} (h:WbS w K a n c sa sn sc ca cn cc s home d ba bn bc set oa on oc offers q1 q2 q4 mb g U) (hu:Up U V):WbS w K a n c sa sn sc ca cn cc s home d ba bn bc set oa on oc offers q1 q2 q4 mb g V :=
 ⟨h.u.trans hu,h.l.up hu,h.b.keeps (hu.keeps _),h.o.up hu,h.s.up hu,h.d.up hu,h.m.up hu⟩
set_option maxRecDepth 100000 in
set_option maxHeartbeats 100000000 in
theorem wbudget_law (HD:DelC) (v0:Value) {w:World} (hN:Nums w v0) (choice budget fails:Int) (bc0:-9223372036854775808≤choice∧choice≤9223372036854775807) (bm0:-9223372036854775808≤budget∧budget≤9223372036854775807) (bf0:-9223372036854775808≤fails∧fails≤9223372036854775807) :
 Gives Tryz.prog 7 #[v0,.int .i64 choice,.int .i64 budget,.int .i64 fails] w (.bool true):=by
 have HA:=hide (fun w=>awake6_any w)
 have HN:=hide hN
 have HF3:=hide (fun W=>mod_any fails 3 bf0.1 bf0.2 (by omega) (by omega) W)
 have HM20:=hide (fun W=>mod_any budget 20 bm0.1 bm0.2 (by omega) (by omega) W)
 obtain ⟨na,nn,nc,rfl⟩:=hN.form
 clear hN bm0 bf0
 (unfold Gives;go_enter Tryz.func7,Tryz.ntmps7)
 go_wp2_with fail
 go_at_call 9
 refine (newring_any _ _ _ _).mono ?_
 rintro _ _ ⟨rfl,rfl⟩
 go_wp2_with fail
 go_at_call 8
 obtain ⟨B,hBB⟩:∃ b,b=w.heap.size:=⟨_,rfl⟩
 rw [← hBB]
 refine forgetC (fun V=>Up w V∧Box V B #[.slice na nn nc,.int .i64 0] 98) ⟨(by repeat (first|with_reducible (first|exact Up.refl _|apply Up.plus)|apply Up.ext|apply Up.alloc|apply Up.drew|refine Up.setCell ?_ (by simp;try omega) _)),by rw [hBB];exact (by repeat (first|exact Box.mk rfl|(refine Box.mk ?_;simp;done)|apply Box.ext|apply Box.drew|apply Box.alloc|apply Box.two1|refine Box.other ?_ (by omega) _ _))⟩ ?_
 rintro V ⟨hu,hb⟩
 have hBw:w.heap.size≤B:=by omega
 have hBV:B<V.heap.size:=hb.lt
 have KN:=hide (fun (m:Int) (m0:1≤m) (m1:m≤9223372036854775807) n U (hV:RingAt V B n U) (hn:n+1≤100000)=>(next_r HN.out hBw m0 m1).at hu hb hBw hV hn)
 have HUV:=hide hu
 refine (watchof_any HN.out (B:=B) hBw (cells:=7) (offs:=4) (by omega) (by omega) (by omega) 0 V hu hb (by omega) (by omega)).mono ?_
 rintro _ W2 ⟨a,n,c,sa,sn,sc,ca,cn,cc,s,d,ba,bn,bc,set,oa,on,oc,offers,sx,sy,su,sv,rfl,hR,hL,hsm,hB,hO,hsl,hsk,hon,hoe,hdd,hss⟩
 have hon':=(Offs.at hO).1
 have hbn':=(Boxes.at hB).1
 have hn':=(Bods.at hL.b).1
 have hn1:=hsm.num
 obtain ⟨home,hhome⟩:∃ h,s.home=h:=⟨_,rfl⟩
 rw [hhome]
 obtain ⟨K,hK⟩:∃ K:Nat→Prop,K=fun b=>V.heap.size≤b:=⟨_,rfl⟩
 rw [← hK] at hL hB hO
 have hKB:∀ b,K b→b≠B:=fun b hb=>by rw [hK] at hb;have:V.heap.size≤b:=hb;omega
 have hVW:=hR.size
 have hn3:1≤n∧n≤3:=by omega
 have H2:=hide (And.intro hR (And.intro hL (And.intro hB hO)))
 have HON:=hide (And.intro hon' (And.intro hbn' hn'))
 have hon4:offers.length≤4:=hon
 have hset:1≤set.length:=hsl.1
 have HKB:=hide hKB
 clear hR hL hsm hB hO hsl hsk hon hoe hdd hss hu hb hK hon' hbn' hn' hn1 HN hKB
 go_wp2_with fail
 go_at_call 34
 obtain ⟨q1,hq1⟩:∃ b,b=W2.heap.size:=⟨_,rfl⟩
 obtain ⟨q2,hq2⟩:∃ b,b=W2.heap.size+1:=⟨_,rfl⟩
 rw [← hq2,← hq1,← hBB]
 refine forgetK (fun U=>WbR V B K a n c sa sn sc ca cn cc s home d ba bn bc set oa on oc offers q1 q2 280 U) ⟨H2.out.1.ofUp (by repeat (first|with_reducible (first|exact Up.refl _|apply Up.plus)|apply Up.ext|apply Up.alloc|apply Up.drew|refine Up.setCell ?_ (by simp;try omega) _)),H2.out.2.1.up (by repeat (first|with_reducible (first|exact Up.refl _|apply Up.plus)|apply Up.ext|apply Up.alloc|apply Up.drew|refine Up.setCell ?_ (by simp;try omega) _)),H2.out.2.2.1.keeps (Up.keeps (by repeat (first|with_reducible (first|exact Up.refl _|apply Up.plus)|apply Up.ext|apply Up.alloc|apply Up.drew|refine Up.setCell ?_ (by simp;try omega) _)) _),H2.out.2.2.2.up (by repeat (first|with_reducible (first|exact Up.refl _|apply Up.plus)|apply Up.ext|apply Up.alloc|apply Up.drew|refine Up.setCell ?_ (by simp;try omega) _)),by rw [hq1];exact (by repeat (first|exact Box.mk rfl|(refine Box.mk ?_;simp;done)|apply Box.ext|apply Box.drew|apply Box.alloc|apply Box.two1|refine Box.other ?_ (by omega) _ _)),by rw [hq2];exact (by repeat (first|exact Box.mk rfl|(refine Box.mk ?_;simp;done)|apply Box.ext|apply Box.drew|apply Box.alloc|apply Box.two1|refine Box.other ?_ (by omega) _ _))⟩ ?_
 have q12:q1≠B∧q2≠B:=by omega
 clear H2 hq1 hq2 hVW
 intro U3 h3
 have H3:=hide h3
 clear h3
 refine (KN.out n (by omega) (by omega) _ _ H3.out.r (by omega)).mono ?_
 rintro _ U4 ⟨_,rfl,⟨mb,mb0,mb1,rfl⟩,hR4,hg4⟩
 have H4:=hide (H3.out.next hR4 hg4 HKB.out q12.1 q12.2)
 clear H3 hR4 hg4
 go_wp2_with fail
 go_at_call 34
 try rw [← hBB]
 refine (KN.out 300000 (by omega) (by omega) _ _ H4.out.r (by omega)).mono ?_
 rintro _ U5 ⟨_,rfl,⟨g,g0,g1,rfl⟩,hR5,hg5⟩
 have H5:=hide (H4.out.next hR5 hg5 HKB.out q12.1 q12.2)
 clear H4 hR5 hg5 KN
 have s0:=H5.out.s.cell 0 rfl
 have s1:=H5.out.s.cell 1 rfl
 have s2:=H5.out.s.cell 2 rfl
 have s3:=H5.out.s.cell 3 rfl
 have ls:=H5.out.s.lt
 have d0:=H5.out.d.cell 0 rfl
 have d1:=H5.out.d.cell 1 rfl
 have d2:=H5.out.d.cell 2 rfl
 have d3:=H5.out.d.cell 3 rfl
 have d4:=H5.out.d.cell 4 rfl
 have ld:=H5.out.d.lt
 go_wp2_with fail
 go_at_call 10
 obtain ⟨q4,hq4⟩:∃ b,b=U5.heap.size:=⟨_,rfl⟩
 try rw [← hq4]
 refine forgetK (fun U=>WbS w K a n c sa sn sc ca cn cc s home d ba bn bc set oa on oc offers q1 q2 q4 mb g U) ⟨(H5.out.r.up HUV.out hBw).trans (by repeat (first|with_reducible (first|exact Up.refl _|apply Up.plus)|apply Up.ext|apply Up.alloc|apply Up.drew|refine Up.setCell ?_ (by simp;try omega) _)),H5.out.l.up (by repeat (first|with_reducible (first|exact Up.refl _|apply Up.plus)|apply Up.ext|apply Up.alloc|apply Up.drew|refine Up.setCell ?_ (by simp;try omega) _)),H5.out.b.keeps (Up.keeps (by repeat (first|with_reducible (first|exact Up.refl _|apply Up.plus)|apply Up.ext|apply Up.alloc|apply Up.drew|refine Up.setCell ?_ (by simp;try omega) _)) _),H5.out.o.up (by repeat (first|with_reducible (first|exact Up.refl _|apply Up.plus)|apply Up.ext|apply Up.alloc|apply Up.drew|refine Up.setCell ?_ (by simp;try omega) _)),H5.out.s.up (by repeat (first|with_reducible (first|exact Up.refl _|apply Up.plus)|apply Up.ext|apply Up.alloc|apply Up.drew|refine Up.setCell ?_ (by simp;try omega) _)),H5.out.d.up (by repeat (first|with_reducible (first|exact Up.refl _|apply Up.plus)|apply Up.ext|apply Up.alloc|apply Up.drew|refine Up.setCell ?_ (by simp;try omega) _)),by rw [hq4];exact (by repeat (first|exact Box.mk rfl|(refine Box.mk ?_;simp;done)|apply Box.ext|apply Box.drew|apply Box.alloc|apply Box.two1|refine Box.other ?_ (by omega) _ _))⟩ ?_
 clear H5 hq4 s0 s1 s2 s3 ls d0 d1 d2 d3 d4 ld HUV
 intro W6 h6
 have H6:=hide h6
 clear h6
 have s0:=(H6.out.s).cell 0 rfl
 have s1:=(H6.out.s).cell 1 rfl
 have s2:=(H6.out.s).cell 2 rfl
 have s3:=(H6.out.s).cell 3 rfl
 have ls:=(H6.out.s).lt
 have d0:=(H6.out.d).cell 0 rfl
 have d1:=(H6.out.d).cell 1 rfl
 have d2:=(H6.out.d).cell 2 rfl
 have d3:=(H6.out.d).cell 3 rfl
 have d4:=(H6.out.d).cell 4 rfl
 have ld:=(H6.out.d).lt
 have mm0:=(H6.out.m).cell 0 rfl
 have mm1:=(H6.out.m).cell 1 rfl
 have lmm:=(H6.out.m).lt
 have hC:=wwatch_any H6.out.l d 0 H6.out.b H6.out.o
 rw [hhome] at hC
 have hE1:(watchE s d 0 set offers=0)∨(watchE s d 0 set offers≠0):=by omega
 obtain ⟨E,hE⟩:∃ E,E=watchE s d 0 set offers:=⟨_,rfl⟩
 rw [← hE] at hC hE1
 have HE:=hide hE
 have HC:=hide hC
 clear hC hE
 rcases hE1 with rfl | hne
 rotate_left
 · have hEb:(E != 0)=true:=by simpa using hne
   clear hne HE
   refine HC.out.mono ?_
   intro p3
   go_wp2_with (go_at_call 11;(with_reducible refine (HA.out _).mono ?_);intro _)
   go_ret
   exact ⟨rfl,H6.out.u.trans (by repeat (first|with_reducible (first|exact Up.refl _|apply Up.plus)|apply Up.ext|apply Up.alloc|apply Up.drew|refine Up.setCell ?_ (by simp;try omega) _))⟩
 obtain ⟨bud,hbud,bud0,bud1⟩:∃ b,budget % 20=b∧0≤b∧b≤19:=⟨_,rfl,by omega,by omega⟩
 have HM:=hide (HM20.out)
 rw [hbud] at HM
 obtain ⟨f,hf,hf2⟩:∃ f:Nat,fails % 3=f∧f≤2:=⟨(fails % 3).toNat,by omega,by omega⟩
 rw [hf] at HF3
 clear hbud hf HM20
 have HES:=hide HE.out.symm
 have HGB:=hide (And.intro mb0 (And.intro mb1 (And.intro g0 g1)))
 obtain ⟨i,hi,hb1,hb2,hb3⟩:=bestF_is (s:=s) (d:=d) (t:=0) (set:=set) (offers:=offers) (m:=mb) (g:=g) (f:=f) bud0 (2^offers.length)
 have hb4:=best_budget (s:=s) (d:=d) (t:=0) (set:=set) (offers:=offers) (m:=mb) (g:=g) (f:=f) (b':=bud+5) bud0 (by omega)
 have HLE:=hide (fun (x:Int)=>best_least (s:=s) (d:=d) (t:=0) (set:=set) (offers:=offers) (m:=mb) (g:=g) (budget:=bud) (f:=f) (x:=x))
 obtain ⟨R1,hR1⟩:∃ R,R=worstT (tabV s d 0 set offers) (sureO offers) set.length f (chL i on):=⟨_,rfl⟩
 have hl1:(bestF s d 0 set offers mb g bud f (2^offers.length)).left=R1:=by rw [hb1,hR1,HON.out.1];rfl
 have hc1:(bestF s d 0 set offers mb g bud f (2^offers.length)).ch=chL i on:=by rw [hb1,HON.out.1];rfl
 obtain ⟨R2,hR2⟩:∃ R,(bestF s d 0 set offers mb g (bud+5) f (2^offers.length)).left=R:=⟨_,rfl⟩
 obtain ⟨l2,hl2⟩:∃ l,(bestF s d 0 set offers mb g (bud+5) f (2^offers.length)).ch=l:=⟨_,rfl⟩
 rw [hl1,hR2] at hb4
 rw [← HON.out.1] at hb2 hb3
 have hv1:=hide (And.intro hl1 hc1)
 have HBL:=hide hl1
 have hv2:=hide (And.intro hR2 hl2)
 have HR1:=hide hR1
 have HLE2:=hide hb4
 have HB2:=hide hb2
 have HB3:=hide hb3
 clear hl1 hc1 hR2 hl2 hR1 hb1 hb2 hb3 hb4 hi HE
 refine HC.out.mono ?_
 intro p3
 clear HC
 go_wp2_with (first|(go_at_call 12;(with_reducible refine (HM.out _).mono ?_);intro _)|(go_at_call 12;(with_reducible refine (HF3.out _).mono ?_);intro _))
 go_at_call 24
 refine forgetK (fun U=>WbS w K a n c sa sn sc ca cn cc s home d ba bn bc set oa on oc offers q1 q2 q4 mb g U) (H6.out.up (by repeat (first|with_reducible (first|exact Up.refl _|apply Up.plus)|apply Up.ext|apply Up.alloc|apply Up.drew|refine Up.setCell ?_ (by simp;try omega) _))) ?_
 clear H6 HM HF3 s0 s1 s2 s3 ls d0 d1 d2 d3 d4 ld mm0 mm1 lmm
 intro W7 h7
 have H7:=hide h7
 clear h7
 have s0:=(H7.out.s).cell 0 rfl
 have s1:=(H7.out.s).cell 1 rfl
 have s2:=(H7.out.s).cell 2 rfl
 have s3:=(H7.out.s).cell 3 rfl
 have ls:=(H7.out.s).lt
 have d0:=(H7.out.d).cell 0 rfl
 have d1:=(H7.out.d).cell 1 rfl
 have d2:=(H7.out.d).cell 2 rfl
 have d3:=(H7.out.d).cell 3 rfl
 have d4:=(H7.out.d).cell 4 rfl
 have ld:=(H7.out.d).lt
 have mm0:=(H7.out.m).cell 0 rfl
 have mm1:=(H7.out.m).cell 1 rfl
 have lmm:=(H7.out.m).lt
 refine (best_at HD hhome H7.out.l d H7.out.b H7.out.o HES.out ⟨bud0,by omega⟩ ⟨HGB.out.1,by have:=HGB.out.2.1;have:=HON.out.2.2;omega⟩ ⟨HGB.out.2.2.1,by have:=HGB.out.2.2.2;omega⟩ (by omega) hv1.out.1 hv1.out.2).mono ?_
 rintro _ W8 ⟨xa,xn,xc,rfl,hl8,hu8⟩
 have H8:=hide (And.intro (H7.out.up hu8) hl8)
 clear H7 hl8 hu8 s0 s1 s2 s3 ls d0 d1 d2 d3 d4 ld mm0 mm1 lmm
 have s0:=(H8.out.1.s).cell 0 rfl
 have s1:=(H8.out.1.s).cell 1 rfl
 have s2:=(H8.out.1.s).cell 2 rfl
 have s3:=(H8.out.1.s).cell 3 rfl
 have ls:=(H8.out.1.s).lt
 have d0:=(H8.out.1.d).cell 0 rfl
 have d1:=(H8.out.1.d).cell 1 rfl
 have d2:=(H8.out.1.d).cell 2 rfl
 have d3:=(H8.out.1.d).cell 3 rfl
 have d4:=(H8.out.1.d).cell 4 rfl
 have ld:=(H8.out.1.d).lt
 have mm0:=(H8.out.1.m).cell 0 rfl
 have mm1:=(H8.out.1.m).cell 1 rfl
 have lmm:=(H8.out.1.m).lt
 go_wp2_with fail
 go_at_call 24
 refine (best_at HD hhome H8.out.1.l d H8.out.1.b H8.out.1.o HES.out ⟨by omega,by omega⟩ ⟨HGB.out.1,by have:=HGB.out.2.1;have:=HON.out.2.2;omega⟩ ⟨HGB.out.2.2.1,by have:=HGB.out.2.2.2;omega⟩ (by omega) hv2.out.1 hv2.out.2).mono ?_
 rintro _ W9 ⟨za,zn,zc,rfl,hl9,hu9⟩
 have H9:=hide (And.intro (H8.out.1.up hu9) (H8.out.2.up hu9))
 clear H8 hl9 hu9 hv1 hv2 s0 s1 s2 s3 ls d0 d1 d2 d3 d4 ld mm0 mm1 lmm
 have s0:=(H9.out.1.s).cell 0 rfl
 have s1:=(H9.out.1.s).cell 1 rfl
 have s2:=(H9.out.1.s).cell 2 rfl
 have s3:=(H9.out.1.s).cell 3 rfl
 have ls:=(H9.out.1.s).lt
 have d0:=(H9.out.1.d).cell 0 rfl
 have d1:=(H9.out.1.d).cell 1 rfl
 have d2:=(H9.out.1.d).cell 2 rfl
 have d3:=(H9.out.1.d).cell 3 rfl
 have d4:=(H9.out.1.d).cell 4 rfl
 have ld:=(H9.out.1.d).lt
 have mm0:=(H9.out.1.m).cell 0 rfl
 have mm1:=(H9.out.1.m).cell 1 rfl
 have lmm:=(H9.out.1.m).lt
 have HW:=hide (fun (W:World) (hu:Up W9 W)=>worst_chosen HD hhome (H9.out.1.l.up hu) d (H9.out.1.b.keeps (hu.keeps _)) (H9.out.1.o.up hu) (H9.out.2.up hu) HES.out f (by omega) HR1.out)
 have HW0:=hide (fun (W:World) (hu:Up W9 W)=>worst_chosen HD hhome (H9.out.1.l.up hu) d (H9.out.1.b.keeps (hu.keeps _)) (H9.out.1.o.up hu) (KI:=fun _=>True) (ia:=none) (inn:=0) (ic:=0) (X:=0) (by rw [chL_nothing];exact Lst.nil0 _ _ _ _ _) HES.out f (by omega) (R:=bn) (by rw [chL_nothing,worst_none];exact HON.out.2.1))
 have dgt:decide ((R1:Int)<R2)=false:=decide_eq_false (by have:=HLE2.out;omega)
 go_wp2_with fail
 go_at_call 13
 refine (HW.out _ (by repeat (first|with_reducible (first|exact Up.refl _|apply Up.plus)|apply Up.ext|apply Up.alloc|apply Up.drew|refine Up.setCell ?_ (by simp;try omega) _))).mono ?_
 intro p4
 go_wp2_with fail
 go_at_call 13
 refine (HW0.out _ (by repeat (first|with_reducible (first|exact Up.refl _|apply Up.plus)|apply Up.ext|apply Up.alloc|apply Up.drew|refine Up.setCell ?_ (by simp;try omega) _))).mono ?_
 intro p5
 go_wp2_with fail
 go_at_call 14
 obtain ⟨BC,hBC⟩:∃ g,g=W9.heap.size+(p4.plus p5).os.size:=⟨_,rfl⟩
 try rw [← hBC]
 refine forgetC (fun U=>Up W9 U∧Box U BC #[.int .i64 (0),.int .i64 (0)] 3) ⟨(by repeat (first|with_reducible (first|exact Up.refl _|apply Up.plus)|apply Up.ext|apply Up.alloc|apply Up.drew|refine Up.setCell ?_ (by simp;try omega) _)),by rw [hBC];exact Box.mk (ext_size _ _)⟩ ?_
 have h9C:W9.heap.size≤BC:=by omega
 clear hBC s0 s1 s2 s3 ls d0 d1 d2 d3 d4 ld mm0 mm1 lmm dgt
 rintro W10 ⟨hu10,hb10⟩
 refine (chosen_any choice (n:=on) (by have:=HON.out.1;omega) _).mono ?_
 rintro _ W11 ⟨ya,yn,yc,pc,rfl,hch,hWc⟩
 have hu11:Up W10 W11:=by rw [hWc];exact (by repeat (first|with_reducible (first|exact Up.refl _|apply Up.plus)|apply Up.ext|apply Up.alloc|apply Up.drew|refine Up.setCell ?_ (by simp;try omega) _))
 have h10C:BC<W10.heap.size:=hb10.lt
 obtain ⟨Q,hQ⟩:∃ Q,Q=chL choice on:=⟨_,rfl⟩
 rw [← hQ] at hch
 have hyn:=(Ints.at hch).1
 have hym:=(Ints.at hch).2.1
 have H11:=hide (show Up W9 W11∧Lst TInt (fun b=>b≠BC) W11 (.slice ya yn yc) Q∧Box W11 BC #[.int .i64 (costL offers (Q.take 0)),.int .i64 (0)] 3 from ⟨hu10.trans hu11,hch.mono fun b _ hb=>by show b≠BC;have:W10.heap.size≤b:=hb;omega,hb10.up hu11⟩)
 have hQn:Q.length≤4:=by rw [hQ];have:=chL_le choice on;have:=HON.out.1;omega
 have HYN:=hide hyn
 have HQ:=hide hQ
 have HOF:=hide (offer_ok HES.out)
 have HCB:=hide (fun (l:List Int)=>costL_bd (fun o ho=>(HOF.out o ho).2) l)
 have HQM:=hide (fun (p:Int) (hp:p∈Q)=>mem_chL' (x:=choice) (k:=on) (by rw [← hQ];exact hp))
 have HMB:=hide (show 0≤mb∧mb<s.bodies.length from ⟨HGB.out.1,by have:=HGB.out.2.1;have:=HON.out.2.2;omega⟩)
 have HGG:=hide (show 0≤g∧g≤1000000 from ⟨HGB.out.2.2.1,by have:=HGB.out.2.2.2;omega⟩)
 have HDK:=hide (fun (W:World) (hu:Up W9 W) (o:OffD) (ho:o∈offers)=>show Gives Tryz.prog 35 #[.agg #[.slice a n c,.int .i64 home,.slice sa sn sc,.slice ca cn cc],.agg #[.int .i64 o.kind,.int .i64 o.station,.int .i64 o.catalog,.int .i64 o.tick,.int .i64 o.dx,.int .i64 o.dy,.int .i64 o.err,.int .i64 o.far,.int .i64 o.wide,.int .i64 o.cost,.bool o.sure],.agg #[.int .i64 (mb),.int .i64 (g)]] W (.bool (darkK s o mb g)) from by have h:=wDark_any (H9.out.1.l.up hu) o mb g;rw [hhome,darkV_ok (HOF.out o ho).1 HMB.out HGG.out] at h;exact h)
 clear hch hWc hu10 hu11 hb10 hyn hQ
 go_wp2_with fail
 go_loopw [27,29] (fun s27 s29 wr=>∃ k:Nat,k≤yn∧s29=.int .i64 k∧s27=.bool (darkL s offers mb g (Q.take k))∧Hid (Up W9 wr∧Lst TInt (fun b=>b≠BC) wr (.slice ya yn yc) Q∧Box wr BC #[.int .i64 (costL offers (Q.take k)),.int .i64 (0)] 3)) (fun _ s29 _=>yn - (intOf s29).toNat)
 case atStart=>exact ⟨0,by omega,rfl,rfl,hide ⟨H11.out.1.trans (by repeat (first|with_reducible (first|exact Up.refl _|apply Up.plus)|apply Up.ext|apply Up.alloc|apply Up.drew|refine Up.setCell ?_ (by simp;try omega) _)),H11.out.2.1.up (by repeat (first|with_reducible (first|exact Up.refl _|apply Up.plus)|apply Up.ext|apply Up.alloc|apply Up.drew|refine Up.setCell ?_ (by simp;try omega) _)),H11.out.2.2.up (by repeat (first|with_reducible (first|exact Up.refl _|apply Up.plus)|apply Up.ext|apply Up.alloc|apply Up.drew|refine Up.setCell ?_ (by simp;try omega) _))⟩⟩
 case round =>
  obtain ⟨k,hk,rfl,rfl,HJ⟩:=hrel
  clear H11
  by_cases hlt:k<yn
  · have hkb:decide ((k:Int)<yn)=true:=by simp;omega
    have hkn:decide (k<yn)=true:=by simp;omega
    obtain ⟨yb,yo,p,rfl,hKp,hpw,hpk,pc0⟩:=(Ints.at HJ.out.2.1).2.2 k hlt
    have hpm:=HQM.out p (List.mem_of_getElem? hpk)
    obtain ⟨j,rfl⟩:=Int.eq_ofNat_of_zero_le hpm.1
    have hj:j<on:=by omega
    obtain ⟨ob,oo,o,rfl,hKo,how,hoo,c0,c1,c2,c3,c4,c5,c6,c7,c8,c9,c10⟩:=(Offs.at (H9.out.1.o.up HJ.out.1)).2.2 j hj
    have hjn:decide (j<on)=true:=decide_eq_true hj
    have hjb:decide ((j:Int)<on)=true:=by simp;omega
    have hom:=List.mem_of_getElem? hoo
    have HCN:=hide (cost_next hpk hoo)
    have HDN:=hide (dark_next (s:=s) (m:=mb) (g:=g) hpk hoo)
    have hoc:=(HOF.out o hom).2
    have hcb:=HCB.out (Q.take k)
    have hct:(Q.take k).length≤4:=by rw [List.length_take];omega
    have HDO:=hide (fun W hu=>HDK.out W hu o hom)
    have HOO:=hide hoo
    have HPK:=hide hpk
    obtain ⟨C,hC⟩:∃ C,C=costL offers (Q.take k):=⟨_,rfl⟩
    obtain ⟨D,hD⟩:∃ D,D=darkL s offers mb g (Q.take k):=⟨_,rfl⟩
    obtain ⟨DK,hDK⟩:∃ DK,DK=darkK s o mb g:=⟨_,rfl⟩
    rw [← hC] at HJ HCN hcb
    rw [← hD] at HDN
    rw [← hD]
    rw [← hDK] at HDN HDO
    have x0:=HJ.out.2.2.cell 0 rfl
    have x1:=HJ.out.2.2.cell 1 rfl
    have lx:=HJ.out.2.2.lt
    have fx0:=HJ.out.2.2.frozen 0
    clear hC hD hDK hKp hKo hpm hpk hoo
    go_wp2_with fail
    ((first | with_reducible refine wp_region_ext_tail2 1 (by kernel_rfl) (by kernel_rfl) ?_ | refine wp_region_ext_tail 1 (by kernel_rfl) (by kernel_rfl) ?_);simp only [List.length_cons,List.length_nil,Nat.reduceAdd,Nat.reduceSub,List.take_succ_cons,List.take_zero,List.drop_succ_cons,List.drop_zero];(repeat (go_big_quiet_step (fail)));refine wpQuiet_nil ?_;intro _ hw';obtain ⟨_,hw''⟩:=hw';subst hw'')
    go_wp2_with fail
    refine forgetW (fun U=>Up W9 U∧Lst TInt (fun b=>b≠BC) U (.slice (some ⟨yb,yo,none⟩) yn yc) Q∧Box U BC #[.int .i64 (C+o.cost),.int .i64 (0)] 3) ⟨(HJ.out.1.setCell (q:=⟨BC,0,none⟩) h9C _).trans (by repeat (first|with_reducible (first|exact Up.refl _|apply Up.plus)|apply Up.ext|apply Up.alloc|apply Up.drew|refine Up.setCell ?_ (by simp;try omega) _)),(HJ.out.2.1.keeps ((Keeps.refl (fun b=>b≠BC) _).set (b:=BC) (fun h=>h rfl) 0 _)).up (by repeat (first|with_reducible (first|exact Up.refl _|apply Up.plus)|apply Up.ext|apply Up.alloc|apply Up.drew|refine Up.setCell ?_ (by simp;try omega) _)),(HJ.out.2.2.set 0 _).up (by repeat (first|with_reducible (first|exact Up.refl _|apply Up.plus)|apply Up.ext|apply Up.alloc|apply Up.drew|refine Up.setCell ?_ (by simp;try omega) _))⟩ ?_
    clear HJ x0 x1 lx fx0 c0 c1 c2 c3 c4 c5 c6 c7 c8 c9 c10 pc0 how hpw
    intro U2 hU2
    have HJ:=hide hU2
    clear hU2
    obtain ⟨ob',oo',o',hob,hKo,how,hoo',c0,c1,c2,c3,c4,c5,c6,c7,c8,c9,c10⟩:=(Offs.at (H9.out.1.o.up HJ.out.1)).2.2 j hj
    simp only [Option.some.injEq,Addr.mk.injEq,and_true] at hob
    obtain ⟨rfl,rfl⟩:=hob
    obtain rfl:o'=o:=by have h:=HOO.out;rw [hoo'] at h;exact Option.some.inj h
    obtain ⟨yb',yo',p',hyb,hKp,hpw,hpk',pc0⟩:=(Ints.at HJ.out.2.1).2.2 k hlt
    simp only [Option.some.injEq,Addr.mk.injEq,and_true] at hyb
    obtain ⟨rfl,rfl⟩:=hyb
    obtain rfl:p'=(j:Int):=by have h:=HPK.out;rw [hpk'] at h;exact Option.some.inj h
    clear hKo hKp hoo' hpk'
    have s0:=((H9.out.1.up HJ.out.1).s).cell 0 rfl
    have s1:=((H9.out.1.up HJ.out.1).s).cell 1 rfl
    have s2:=((H9.out.1.up HJ.out.1).s).cell 2 rfl
    have s3:=((H9.out.1.up HJ.out.1).s).cell 3 rfl
    have ls:=((H9.out.1.up HJ.out.1).s).lt
    have d0:=((H9.out.1.up HJ.out.1).d).cell 0 rfl
    have d1:=((H9.out.1.up HJ.out.1).d).cell 1 rfl
    have d2:=((H9.out.1.up HJ.out.1).d).cell 2 rfl
    have d3:=((H9.out.1.up HJ.out.1).d).cell 3 rfl
    have d4:=((H9.out.1.up HJ.out.1).d).cell 4 rfl
    have ld:=((H9.out.1.up HJ.out.1).d).lt
    have mm0:=((H9.out.1.up HJ.out.1).m).cell 0 rfl
    have mm1:=((H9.out.1.up HJ.out.1).m).cell 1 rfl
    have lmm:=((H9.out.1.up HJ.out.1).m).lt
    rcases D with _ | _
    · go_wp2_with fail
      ((first | with_reducible refine wp_region_ext2 (by kernel_rfl) (by kernel_rfl) ?_ | refine wp_region_ext (by kernel_rfl) (by kernel_rfl) ?_);(repeat (go_big_quiet_step (fail)));refine wpQuiet_nil ?_;intro _ hw';obtain ⟨_,hw''⟩:=hw';subst hw'')
      go_wp2_with fail
      go_roundw
      case rel=>exact ⟨k+1,by omega,by go_num,by rw [HDN.out];rfl,hide (by rw [HCN.out];exact ⟨HJ.out.1.trans (by repeat (first|with_reducible (first|exact Up.refl _|apply Up.plus)|apply Up.ext|apply Up.alloc|apply Up.drew|refine Up.setCell ?_ (by simp;try omega) _)),HJ.out.2.1.up (by repeat (first|with_reducible (first|exact Up.refl _|apply Up.plus)|apply Up.ext|apply Up.alloc|apply Up.drew|refine Up.setCell ?_ (by simp;try omega) _)),HJ.out.2.2.up (by repeat (first|with_reducible (first|exact Up.refl _|apply Up.plus)|apply Up.ext|apply Up.alloc|apply Up.drew|refine Up.setCell ?_ (by simp;try omega) _))⟩)⟩
      case measure=>simp [intOf];omega
    · go_wp2_with fail
      ((first | with_reducible refine wp_region_ext2 (by kernel_rfl) (by kernel_rfl) ?_ | refine wp_region_ext (by kernel_rfl) (by kernel_rfl) ?_);(repeat (go_big_quiet_step ((go_at_call 35;with_reducible exact Gives.inRegion (HDO.out _ (HJ.out.1.trans (by repeat (first|with_reducible (first|exact Up.refl _|apply Up.plus)|apply Up.ext|apply Up.alloc|apply Up.drew|refine Up.setCell ?_ (by simp;try omega) _))))))));refine wpQuiet_nil ?_;intro _ hw';obtain ⟨_,hw''⟩:=hw';subst hw'')
      go_wp2_with fail
      go_roundw
      case rel=>exact ⟨k+1,by omega,by go_num,by rw [HDN.out];simp,hide (by rw [HCN.out];exact ⟨HJ.out.1.trans (by repeat (first|with_reducible (first|exact Up.refl _|apply Up.plus)|apply Up.ext|apply Up.alloc|apply Up.drew|refine Up.setCell ?_ (by simp;try omega) _)),HJ.out.2.1.up (by repeat (first|with_reducible (first|exact Up.refl _|apply Up.plus)|apply Up.ext|apply Up.alloc|apply Up.drew|refine Up.setCell ?_ (by simp;try omega) _)),HJ.out.2.2.up (by repeat (first|with_reducible (first|exact Up.refl _|apply Up.plus)|apply Up.ext|apply Up.alloc|apply Up.drew|refine Up.setCell ?_ (by simp;try omega) _))⟩)⟩
      case measure=>simp [intOf];omega
  · have hkb:decide ((k:Int)<yn)=false:=by simp;omega
    have hkn:decide (k<yn)=false:=by simp;omega
    obtain rfl:k=yn:=by omega
    have htk:Q.take k=Q:=by rw [HYN.out];exact List.take_length
    rw [htk] at HJ
    rw [htk]
    clear htk
    obtain ⟨Q1,hQ1⟩:∃ Q,Q=chL (i:Int) on:=⟨_,rfl⟩
    rw [← hQ1] at H9 HB2 HB3 HR1
    have HQM1:=hide (fun (p:Int) (hp:p∈Q1)=>mem_chL' (x:=(i:Int)) (k:=on) (by rw [← hQ1];exact hp))
    have hQ1n:Q1.length≤4:=by rw [hQ1];have:=chL_le (i:Int) on;have:=HON.out.1;omega
    have hxn:=(Ints.at H9.out.2).1
    have hxm:=(Ints.at H9.out.2).2.1
    have HXN:=hide hxn
    clear hQ1 hxn HQM
    obtain ⟨C0,hC0⟩:∃ C,C=costL offers Q:=⟨_,rfl⟩
    obtain ⟨D,hD⟩:∃ D,D=darkL s offers mb g Q:=⟨_,rfl⟩
    rw [← hC0] at HJ
    rw [← hD]
    have HC0:=hide hC0
    have HD0:=hide hD
    clear hC0 hD
    go_wp2_with fail
    go_loopw [30] (fun s30 wr=>∃ m0:Nat,m0≤xn∧s30=.int .i64 m0∧Hid (Up W9 wr∧Lst TInt (fun b=>b≠BC) wr (.slice ya k yc) Q∧Box wr BC #[.int .i64 (C0),.int .i64 (costL offers (Q1.take m0))] 3)) (fun s30 _=>xn - (intOf s30).toNat)
    case atStart=>exact ⟨0,by omega,rfl,hide ⟨HJ.out.1.trans (by repeat (first|with_reducible (first|exact Up.refl _|apply Up.plus)|apply Up.ext|apply Up.alloc|apply Up.drew|refine Up.setCell ?_ (by simp;try omega) _)),HJ.out.2.1.up (by repeat (first|with_reducible (first|exact Up.refl _|apply Up.plus)|apply Up.ext|apply Up.alloc|apply Up.drew|refine Up.setCell ?_ (by simp;try omega) _)),HJ.out.2.2.up (by repeat (first|with_reducible (first|exact Up.refl _|apply Up.plus)|apply Up.ext|apply Up.alloc|apply Up.drew|refine Up.setCell ?_ (by simp;try omega) _))⟩⟩
    case round =>
     obtain ⟨m,hm,rfl,HI⟩:=hrel
     clear HJ
     by_cases hlm:m<xn
     · have hmb:decide ((m:Int)<xn)=true:=by simp;omega
       have hmn:decide (m<xn)=true:=by simp;omega
       obtain ⟨yb,yo,p,rfl,hKp,hpw,hpk,pc0⟩:=(Ints.at (H9.out.2.up HI.out.1)).2.2 m hlm
       have hpm:=HQM1.out p (List.mem_of_getElem? hpk)
       obtain ⟨j,rfl⟩:=Int.eq_ofNat_of_zero_le hpm.1
       have hj:j<on:=by omega
       obtain ⟨ob,oo,o,rfl,hKo,how,hoo,c0,c1,c2,c3,c4,c5,c6,c7,c8,c9,c10⟩:=(Offs.at (H9.out.1.o.up HI.out.1)).2.2 j hj
       have hjn:decide (j<on)=true:=decide_eq_true hj
       have hjb:decide ((j:Int)<on)=true:=by simp;omega
       have hom:=List.mem_of_getElem? hoo
       have HCN:=hide (cost_next hpk hoo)
       have hdk:=dark_at HB2.out (List.mem_of_getElem? hpk) hoo
       have hoc:=(HOF.out o hom).2
       have hcb:=HCB.out (Q1.take m)
       have hct:(Q1.take m).length≤4:=by rw [List.length_take];omega
       have HDO:=hide (fun W hu=>HDK.out W hu o hom)
       rw [hdk] at HDO
       have HOO:=hide hoo
       have HPK:=hide hpk
       obtain ⟨C,hC⟩:∃ C,C=costL offers (Q1.take m):=⟨_,rfl⟩
       rw [← hC] at HI HCN hcb
       have x0:=HI.out.2.2.cell 0 rfl
       have x1:=HI.out.2.2.cell 1 rfl
       have lx:=HI.out.2.2.lt
       have fx1:=HI.out.2.2.frozen 1
       clear hC hdk hKp hKo hpm hpk hoo
       go_wp2_with fail
       ((first | with_reducible refine wp_region_ext_tail2 1 (by kernel_rfl) (by kernel_rfl) ?_ | refine wp_region_ext_tail 1 (by kernel_rfl) (by kernel_rfl) ?_);simp only [List.length_cons,List.length_nil,Nat.reduceAdd,Nat.reduceSub,List.take_succ_cons,List.take_zero,List.drop_succ_cons,List.drop_zero];(repeat (go_big_quiet_step (fail)));refine wpQuiet_nil ?_;intro _ hw';obtain ⟨_,hw''⟩:=hw';subst hw'')
       go_wp2_with fail
       refine forgetW (fun U=>Up W9 U∧Lst TInt (fun b=>b≠BC) U (.slice ya k yc) Q∧Box U BC #[.int .i64 (C0),.int .i64 ((C+o.cost))] 3) ⟨(HI.out.1.setCell (q:=⟨BC,1,none⟩) h9C _).trans (by repeat (first|with_reducible (first|exact Up.refl _|apply Up.plus)|apply Up.ext|apply Up.alloc|apply Up.drew|refine Up.setCell ?_ (by simp;try omega) _)),(HI.out.2.1.keeps ((Keeps.refl (fun b=>b≠BC) _).set (b:=BC) (fun h=>h rfl) 1 _)).up (by repeat (first|with_reducible (first|exact Up.refl _|apply Up.plus)|apply Up.ext|apply Up.alloc|apply Up.drew|refine Up.setCell ?_ (by simp;try omega) _)),(HI.out.2.2.set 1 _).up (by repeat (first|with_reducible (first|exact Up.refl _|apply Up.plus)|apply Up.ext|apply Up.alloc|apply Up.drew|refine Up.setCell ?_ (by simp;try omega) _))⟩ ?_
       clear HI x0 x1 lx fx1 c0 c1 c2 c3 c4 c5 c6 c7 c8 c9 c10 pc0 how hpw
       intro U2 hU2
       have HI:=hide hU2
       clear hU2
       obtain ⟨ob',oo',o',hob,hKo,how,hoo',c0,c1,c2,c3,c4,c5,c6,c7,c8,c9,c10⟩:=(Offs.at (H9.out.1.o.up HI.out.1)).2.2 j hj
       simp only [Option.some.injEq,Addr.mk.injEq,and_true] at hob
       obtain ⟨rfl,rfl⟩:=hob
       obtain rfl:o'=o:=by have h:=HOO.out;rw [hoo'] at h;exact Option.some.inj h
       obtain ⟨yb',yo',p',hyb,hKp,hpw,hpk',pc0⟩:=(Ints.at (H9.out.2.up HI.out.1)).2.2 m hlm
       simp only [Option.some.injEq,Addr.mk.injEq,and_true] at hyb
       obtain ⟨rfl,rfl⟩:=hyb
       obtain rfl:p'=(j:Int):=by have h:=HPK.out;rw [hpk'] at h;exact Option.some.inj h
       clear hKo hKp hoo' hpk'
       have s0:=((H9.out.1.up HI.out.1).s).cell 0 rfl
       have s1:=((H9.out.1.up HI.out.1).s).cell 1 rfl
       have s2:=((H9.out.1.up HI.out.1).s).cell 2 rfl
       have s3:=((H9.out.1.up HI.out.1).s).cell 3 rfl
       have ls:=((H9.out.1.up HI.out.1).s).lt
       have d0:=((H9.out.1.up HI.out.1).d).cell 0 rfl
       have d1:=((H9.out.1.up HI.out.1).d).cell 1 rfl
       have d2:=((H9.out.1.up HI.out.1).d).cell 2 rfl
       have d3:=((H9.out.1.up HI.out.1).d).cell 3 rfl
       have d4:=((H9.out.1.up HI.out.1).d).cell 4 rfl
       have ld:=((H9.out.1.up HI.out.1).d).lt
       have mm0:=((H9.out.1.up HI.out.1).m).cell 0 rfl
       have mm1:=((H9.out.1.up HI.out.1).m).cell 1 rfl
       have lmm:=((H9.out.1.up HI.out.1).m).lt
       go_wp2_with fail
       ((first | with_reducible refine wp_region_ext2 (by kernel_rfl) (by kernel_rfl) ?_ | refine wp_region_ext (by kernel_rfl) (by kernel_rfl) ?_);(repeat (go_big_quiet_step ((go_at_call 35;with_reducible exact Gives.inRegion (HDO.out _ (HI.out.1.trans (by repeat (first|with_reducible (first|exact Up.refl _|apply Up.plus)|apply Up.ext|apply Up.alloc|apply Up.drew|refine Up.setCell ?_ (by simp;try omega) _))))))));refine wpQuiet_nil ?_;intro _ hw';obtain ⟨_,hw''⟩:=hw';subst hw'')
       go_wp2_with fail
       go_roundw
       case rel=>exact ⟨m+1,by omega,by go_num,hide (by rw [HCN.out];exact ⟨HI.out.1.trans (by repeat (first|with_reducible (first|exact Up.refl _|apply Up.plus)|apply Up.ext|apply Up.alloc|apply Up.drew|refine Up.setCell ?_ (by simp;try omega) _)),HI.out.2.1.up (by repeat (first|with_reducible (first|exact Up.refl _|apply Up.plus)|apply Up.ext|apply Up.alloc|apply Up.drew|refine Up.setCell ?_ (by simp;try omega) _)),HI.out.2.2.up (by repeat (first|with_reducible (first|exact Up.refl _|apply Up.plus)|apply Up.ext|apply Up.alloc|apply Up.drew|refine Up.setCell ?_ (by simp;try omega) _))⟩)⟩
       case measure=>simp [intOf];omega
     · have hmb:decide ((m:Int)<xn)=false:=by simp;omega
       have hmn:decide (m<xn)=false:=by simp;omega
       obtain rfl:m=xn:=by omega
       have htk:Q1.take m=Q1:=by rw [HXN.out];exact List.take_length
       rw [htk] at HI
       obtain ⟨C1,hC1⟩:∃ C,C=costL offers Q1:=⟨_,rfl⟩
       rw [← hC1] at HI HB3
       clear htk hC1
       obtain ⟨R3,hR3⟩:∃ R,R=worstT (tabV s d 0 set offers) (sureO offers) set.length f Q:=⟨_,rfl⟩
       have HFIN:=hide (fun (h:D=true) (h':C0≤bud)=>show (R1:Int)≤R3 from by
        have h1:=HLE.out choice (by rw [← HON.out.1,← HQ.out,← HD0.out];exact h) (by rw [← HON.out.1,← HQ.out,← HC0.out];exact h')
        rw [HBL.out,← HON.out.1,← HQ.out,← hR3] at h1
        exact h1)
       have HW3:=hide (fun (W:World) (hu:Up wr W)=>worst_chosen HD hhome ((H9.out.1.up (HI.out.1.trans hu)).l) d ((H9.out.1.up (HI.out.1.trans hu)).b) ((H9.out.1.up (HI.out.1.trans hu)).o) (KI:=fun b=>b≠BC) (X:=choice) (by rw [← HQ.out];exact HI.out.2.1.up hu) HES.out f (by omega) (R:=R3) (by rw [← HQ.out];exact hR3))
       have dle:decide (C1≤bud)=true:=decide_eq_true HB3.out
       clear hR3
       have s0:=((H9.out.1.up HI.out.1).s).cell 0 rfl
       have s1:=((H9.out.1.up HI.out.1).s).cell 1 rfl
       have s2:=((H9.out.1.up HI.out.1).s).cell 2 rfl
       have s3:=((H9.out.1.up HI.out.1).s).cell 3 rfl
       have ls:=((H9.out.1.up HI.out.1).s).lt
       have d0:=((H9.out.1.up HI.out.1).d).cell 0 rfl
       have d1:=((H9.out.1.up HI.out.1).d).cell 1 rfl
       have d2:=((H9.out.1.up HI.out.1).d).cell 2 rfl
       have d3:=((H9.out.1.up HI.out.1).d).cell 3 rfl
       have d4:=((H9.out.1.up HI.out.1).d).cell 4 rfl
       have ld:=((H9.out.1.up HI.out.1).d).lt
       have mm0:=((H9.out.1.up HI.out.1).m).cell 0 rfl
       have mm1:=((H9.out.1.up HI.out.1).m).cell 1 rfl
       have lmm:=((H9.out.1.up HI.out.1).m).lt
       go_wp2_with fail
       go_at_call 13
       refine forgetK (fun U=>Up wr U∧Box U BC #[.int .i64 (C0),.int .i64 (C1)] 3) ⟨(by repeat (first|with_reducible (first|exact Up.refl _|apply Up.plus)|apply Up.ext|apply Up.alloc|apply Up.drew|refine Up.setCell ?_ (by simp;try omega) _)),HI.out.2.2.up (by repeat (first|with_reducible (first|exact Up.refl _|apply Up.plus)|apply Up.ext|apply Up.alloc|apply Up.drew|refine Up.setCell ?_ (by simp;try omega) _))⟩ ?_
       clear s0 s1 s2 s3 ls d0 d1 d2 d3 d4 ld mm0 mm1 lmm
       rintro U ⟨hwU,hbU⟩
       have x0:=hbU.cell 0 rfl
       have x1:=hbU.cell 1 rfl
       have lx:=hbU.lt
       have HU:=hide (HI.out.1.trans hwU)
       refine (HW3.out _ hwU).mono ?_
       clear hwU hbU HI
       intro p9
       rcases D with _ | _
       · go_wp2_with (go_at_call 11;(with_reducible refine (HA.out _).mono ?_);intro _)
         go_ret
         exact ⟨rfl,(H9.out.1.u.trans HU.out).trans (by repeat (first|with_reducible (first|exact Up.refl _|apply Up.plus)|apply Up.ext|apply Up.alloc|apply Up.drew|refine Up.setCell ?_ (by simp;try omega) _))⟩
       · by_cases hgt:bud<C0
         · have dg:decide (bud<C0)=true:=decide_eq_true hgt
           clear hgt HFIN
           go_wp2_with (go_at_call 11;(with_reducible refine (HA.out _).mono ?_);intro _)
           go_ret
           exact ⟨rfl,(H9.out.1.u.trans HU.out).trans (by repeat (first|with_reducible (first|exact Up.refl _|apply Up.plus)|apply Up.ext|apply Up.alloc|apply Up.drew|refine Up.setCell ?_ (by simp;try omega) _))⟩
         · have dg:decide (bud<C0)=false:=decide_eq_false hgt
           have hge:=HFIN.out rfl (by omega)
           have dr:decide ((R1:Int)≤R3)=true:=decide_eq_true hge
           have dr2:decide (R1≤R3)=true:=decide_eq_true (by omega)
           clear hgt HFIN hge
           go_wp2_with (go_at_call 11;(with_reducible refine (HA.out _).mono ?_);intro _)
           go_ret
           exact ⟨rfl,(H9.out.1.u.trans HU.out).trans (by repeat (first|with_reducible (first|exact Up.refl _|apply Up.plus)|apply Up.ext|apply Up.alloc|apply Up.drew|refine Up.setCell ?_ (by simp;try omega) _))⟩
end Go.Proofs.YteafglginnonnaaGreat
