/- The law of WatchMore, walked: one more offer, one more failure, a surer offer. Conditions: what lies in memory. -/
import Derived.Test.YteafglginnonnaaGreatWof
import Derived.Test.YteafglginnonnaaGreatWmo
import Derived.Test.YteafglginnonnaaGreatW6b
namespace Go.Proofs.YteafglginnonnaaGreat
set_option linter.unusedVariables false
set_option linter.unusedSimpArgs false
open Go.RowKit Go.Shelf
structure WmS (w:World) (K:Nat → Prop) (a:Option Addr) (n c:Nat) (sa:Option Addr) (sn sc:Nat) (ca:Option Addr) (cn cc:Nat) (s:SkyD) (home:Int) (d:DriftD) (ba:Option Addr) (bn bc:Nat) (set:List BoxD) (oa:Option Addr) (on oc:Nat) (offers:List OffD) (q1 q2:Nat) (U:World):Prop where
 u:Up w U
 l:SkyL K U a n c sa sn sc ca cn cc s
 b:Boxes K U (.slice ba bn bc) set
 o:Lst TOff K U (.slice oa on oc) offers
 s:Box U q1 #[.slice a n c,.int .i64 home,.slice sa sn sc,.slice ca cn cc] 29
 d:Box U q2 #[.int .i64 (d.l.1),.int .i64 (d.l.2),.int .i64 (d.h.1),.int .i64 (d.h.2),.int .i64 (d.g)] 33
theorem WmS.up {w:World} {K:Nat → Prop} {a:Option Addr} {n c:Nat} {sa:Option Addr} {sn sc:Nat} {ca:Option Addr} {cn cc:Nat} {s:SkyD} {home:Int} {d:DriftD} {ba:Option Addr} {bn bc:Nat} {set:List BoxD} {oa:Option Addr} {on oc:Nat} {offers:List OffD} {q1 q2:Nat} {U V:World} (h:WmS w K a n c sa sn sc ca cn cc s home d ba bn bc set oa on oc offers q1 q2 U) (hu:Up U V):WmS w K a n c sa sn sc ca cn cc s home d ba bn bc set oa on oc offers q1 q2 V :=
 ⟨h.u.trans hu,h.l.up hu,h.b.keeps (hu.keeps _),h.o.up hu,h.s.up hu,h.d.up hu⟩
theorem flat_sure:∀ (l:List OffD) (m:Nat),m < l.length → TOff.flat (sureAt l m) = (TOff.flat l).set (m * 11 + 10) (.bool true)
 | [],m,h=>by simp at h
 | x :: l,0,_=>by
  unfold sureAt
  rw [List.modify_zero_cons]
  rfl
 | x :: l,m + 1,h=>by
  have ih:=flat_sure l m (by simpa using h)
  unfold sureAt at ih ⊢
  rw [List.modify_succ_cons]
  have e:∀ (y:OffD) (t:List OffD),TOff.flat (y :: t) = TOff.f y ++ TOff.flat t:=fun y t=>by unfold Rw.flat;simp
  rw [e,e,ih,List.set_append_right _ _ (by rw [TOff.fk];show 11 ≤ _;omega)]
  congr 2
  rw [TOff.fk]
  show m * 11 + 10 = (m + 1) * 11 + 10 - 11
  omega
theorem Own.sure {e:TypeId} {base:Nat} {w:World} {g n c:Nat} {l:List OffD} (h:Own TOff e base w (.slice (some ⟨g,0,none⟩) n c) l) {m:Nat} (hm:m < l.length):Own TOff e base (w.setCell ⟨g,m * 11 + 10,none⟩ (.bool true)) (.slice (some ⟨g,0,none⟩) n c) (sureAt l m):=by
 obtain ⟨h1,h2⟩:=h
 have hlen:(sureAt l m).length = l.length:=by unfold sureAt;rw [List.length_modify]
 unfold Own
 rw [hlen,flat_sure l m hm]
 refine ⟨by rw [List.length_set];exact h1,?_⟩
 rcases h2 with ⟨h2,h3⟩ | ⟨g',cap,cur,hv,hb,hbx,h4,h5,h6,h7⟩
 · cases h2
 · simp at hv
   obtain ⟨rfl,hv2,rfl⟩:=hv
   have hbx':Box w g cur e:=hbx
   refine .inr ⟨g,c,cur.setIfInBounds (m * 11 + 10) (.bool true),by rw [hv2],hb,hbx'.set (m * 11 + 10) (.bool true),h4,h5,by simpa using h6,?_⟩
   rw [← h7,Array.toList_setIfInBounds,List.take_set]
theorem worst_chosen (HD:DelC) {K:Nat → Prop} {w:World} {a sa ca:Option Addr} {n c sn sc cn cc:Nat} {s:SkyD} {home:Int} (hh:s.home = home) (hL:SkyL K w a n c sa sn sc ca cn cc s) (d:DriftD) {KB:Nat → Prop} {ba:Option Addr} {bn bc:Nat} {set:List BoxD} (hB:Boxes KB w (.slice ba bn bc) set) {KO:Nat → Prop} {oa:Option Addr} {on oc:Nat} {offers:List OffD} (hO:Lst TOff KO w (.slice oa on oc) offers) {KI:Nat → Prop} {ia:Option Addr} {inn ic:Nat} {X:Int} (hI:Lst TInt KI w (.slice ia inn ic) (chL X on)) (hE:watchE s d 0 set offers = 0) (g:Nat) (hg:g ≤ 3) {R:Nat} (hR:R = worstT (tabV s d 0 set offers) (sureO offers) set.length g (chL X on)) :
 Gives Tryz.prog 13 #[.agg #[.slice a n c,.int .i64 home,.slice sa sn sc,.slice ca cn cc],.agg #[.int .i64 (d.l.1),.int .i64 (d.l.2),.int .i64 (d.h.1),.int .i64 (d.h.2),.int .i64 (d.g)],.int .i64 0,.slice ba bn bc,.slice oa on oc,.slice ia inn ic,.int .i64 g] w (.tuple #[.int .i64 R,.int .i64 0]):=by
 have h:=wWorst_any HD hL d 0 hB hO hI g
 have hon:=(Offs.at hO).1
 unfold worstV at h
 rw [if_pos hE,if_pos (show withinB (g:Int) 0 3 = true by simp [withinB];omega),← hon,if_pos (chE_chL X on),Int.toNat_natCast,← hR,hh] at h
 exact h
set_option maxRecDepth 100000 in
set_option maxHeartbeats 100000000 in
theorem wmore_law (HD:DelC) (v0:Value) {w:World} (hN:Nums w v0) (choice more fails:Int) (bc0:-9223372036854775808 ≤ choice ∧ choice ≤ 9223372036854775807) (bm0:-9223372036854775808 ≤ more ∧ more ≤ 9223372036854775807) (bf0:-9223372036854775808 ≤ fails ∧ fails ≤ 9223372036854775807) :
 Gives Tryz.prog 3 #[v0,.int .i64 choice,.int .i64 more,.int .i64 fails] w (.bool true):=by
 have HA:=hide (fun w=>awake6_any w)
 have HN:=hide hN
 have HF3:=hide (fun W=>mod_any fails 3 bf0.1 bf0.2 (by omega) (by omega) W)
 have HMM:=hide (fun (m:Int) (h0:1 ≤ m) (h1:m ≤ 100) W=>mod_any more m bm0.1 bm0.2 (by omega) (by omega) W)
 obtain ⟨na,nn,nc,rfl⟩:=hN.form
 clear hN bm0 bf0
 (unfold Gives;go_enter Tryz.func3,Tryz.ntmps3)
 go_wp2_with fail
 go_at_call 9
 refine (newring_any _ _ _ _).mono ?_
 rintro _ _ ⟨rfl,rfl⟩
 go_wp2_with fail
 go_at_call 8
 obtain ⟨B,hBB⟩:∃ b,b = w.heap.size:=⟨_,rfl⟩
 rw [← hBB]
 refine forgetC (fun V=>Up w V ∧ Box V B #[.slice na nn nc,.int .i64 0] 98) ⟨(by repeat (first | with_reducible exact Up.refl _ | with_reducible apply Up.plus | apply Up.ext | apply Up.alloc | apply Up.drew | (refine Up.setCell ?_ (by simp;try omega) _))),by rw [hBB];exact (by repeat (first | exact Box.mk rfl | (refine Box.mk ?_;simp;done) | apply Box.ext | apply Box.drew | apply Box.alloc | apply Box.two1 | (refine Box.other ?_ (by omega) _ _)))⟩ ?_
 rintro V ⟨hu,hb⟩
 refine (watchof_any HN.out (B:=B) (by omega) (cells:=7) (offs:=4) (by omega) (by omega) (by omega) 0 V hu hb (by omega) (by omega)).mono ?_
 rintro _ W2 ⟨a,n,c,sa,sn,sc,ca,cn,cc,s,d,ba,bn,bc,set,oa,on,oc,offers,sx,sy,su,sv,rfl,hR,hL,hsm,hB,hO,hsl,hsk,hon,hoe,hdd,hss⟩
 have hu2:Up w W2:=hR.up hu (by omega)
 have hon':=(Offs.at hO).1
 obtain ⟨home,hhome⟩:∃ h,s.home = h:=⟨_,rfl⟩
 rw [hhome]
 obtain ⟨K,hK⟩:∃ K:Nat → Prop,K = fun b=>V.heap.size ≤ b:=⟨_,rfl⟩
 rw [← hK] at hL hB hO
 have hon4:on ≤ 4:=by omega
 have H2:=hide (And.intro hu2 (And.intro hL (And.intro hB hO)))
 have HON:=hide hon'
 clear hR hL hsm hB hO hsl hsk hon hoe hdd hss hu hb hu2 hK hon' HN hBB
 by_cases h0:on = 0
 · subst h0
   go_wp2_with (go_at_call 11;(with_reducible refine (HA.out _).mono ?_);intro _)
   go_ret
   exact ⟨rfl,H2.out.1.trans (by repeat (first | with_reducible exact Up.refl _ | with_reducible apply Up.plus | apply Up.ext | apply Up.alloc | apply Up.drew | (refine Up.setCell ?_ (by simp;try omega) _)))⟩
 have h0b:((on:Int) == 0) = false:=by simp;omega
 have h0c:(on == 0) = false:=by simp;omega
 go_wp2_with fail
 go_at_call 10
 obtain ⟨q1,hq1⟩:∃ b,b = W2.heap.size:=⟨_,rfl⟩
 obtain ⟨q2,hq2⟩:∃ b,b = W2.heap.size + 1:=⟨_,rfl⟩
 rw [← hq2,← hq1]
 refine forgetK (fun U=>WmS w K a n c sa sn sc ca cn cc s home d ba bn bc set oa on oc offers q1 q2  U) ⟨H2.out.1.trans (by repeat (first | with_reducible exact Up.refl _ | with_reducible apply Up.plus | apply Up.ext | apply Up.alloc | apply Up.drew | (refine Up.setCell ?_ (by simp;try omega) _))),H2.out.2.1.up (by repeat (first | with_reducible exact Up.refl _ | with_reducible apply Up.plus | apply Up.ext | apply Up.alloc | apply Up.drew | (refine Up.setCell ?_ (by simp;try omega) _))),H2.out.2.2.1.keeps (Up.keeps (by repeat (first | with_reducible exact Up.refl _ | with_reducible apply Up.plus | apply Up.ext | apply Up.alloc | apply Up.drew | (refine Up.setCell ?_ (by simp;try omega) _))) _),H2.out.2.2.2.up (by repeat (first | with_reducible exact Up.refl _ | with_reducible apply Up.plus | apply Up.ext | apply Up.alloc | apply Up.drew | (refine Up.setCell ?_ (by simp;try omega) _))),by rw [hq1];exact (by repeat (first | exact Box.mk rfl | (refine Box.mk ?_;simp;done) | apply Box.ext | apply Box.drew | apply Box.alloc | apply Box.two1 | (refine Box.other ?_ (by omega) _ _))),by rw [hq2];exact (by repeat (first | exact Box.mk rfl | (refine Box.mk ?_;simp;done) | apply Box.ext | apply Box.drew | apply Box.alloc | apply Box.two1 | (refine Box.other ?_ (by omega) _ _)))⟩ ?_
 have q12:q1 ≠ q2:=by omega
 clear H2 hq1 hq2 h0b h0c
 intro V3 h3
 have H3:=hide h3
 clear h3
 have hC:=wwatch_any H3.out.l d 0 H3.out.b H3.out.o
 rw [hhome] at hC
 have hE1:(watchE s d 0 set offers = 0) ∨ (watchE s d 0 set offers ≠ 0):=by omega
 obtain ⟨E,hE⟩:∃ E,E = watchE s d 0 set offers:=⟨_,rfl⟩
 rw [← hE] at hC hE1
 have HE:=hide hE
 have HC:=hide hC
 clear hC hE
 rcases hE1 with rfl | hne
 rotate_left
 · have hEb:(E != 0) = true:=by simpa using hne
   clear hne HE
   refine HC.out.mono ?_
   intro p3
   go_wp2_with (go_at_call 11;(with_reducible refine (HA.out _).mono ?_);intro _)
   go_ret
   exact ⟨rfl,H3.out.u.trans (by repeat (first | with_reducible exact Up.refl _ | with_reducible apply Up.plus | apply Up.ext | apply Up.alloc | apply Up.drew | (refine Up.setCell ?_ (by simp;try omega) _)))⟩
 obtain ⟨m,hm,hmn⟩:∃ m:Nat,more % (on:Int) = m ∧ m < on:=by
  have h1:=Int.emod_nonneg more (show (on:Int) ≠ 0 by omega)
  have h2:=Int.emod_lt_of_pos more (show (0:Int) < on by omega)
  exact ⟨(more % (on:Int)).toNat,by omega,by omega⟩
 have HM:=hide (fun W=>HMM.out on (by omega) (by omega) W)
 rw [hm] at HM
 obtain ⟨f,hf,hf2⟩:∃ f:Nat,fails % 3 = f ∧ f ≤ 2:=⟨(fails % 3).toNat,by omega,by omega⟩
 rw [hf] at HF3
 clear hm hf HMM
 refine HC.out.mono ?_
 intro p3
 clear HC
 go_wp2_with fail
 go_at_call 12
 refine (HM.out _).mono ?_
 intro p4
 go_wp2_with fail
 go_at_call 12
 refine (HF3.out _).mono ?_
 intro p5
 have hm60:m ≤ 62:=by omega
 go_wp2_with (at_builtin;with_reducible refine stopA rfl ?_)
 refine hide ?_
 refine wpList_copy elem_off rfl (.tmp 58) (.tmp 59) rfl (w0:=V3) (by repeat (first | with_reducible exact Up.refl _ | with_reducible apply Up.plus | apply Up.ext | apply Up.alloc | apply Up.drew | (refine Up.setCell ?_ (by simp;try omega) _))) rfl (Box.mk (by simp)) (by simp) rfl (H3.out.o.up (by repeat (first | with_reducible exact Up.refl _ | with_reducible apply Up.plus | apply Up.ext | apply Up.alloc | apply Up.drew | (refine Up.setCell ?_ (by simp;try omega) _)))) (by have:=HON.out;omega) (by decide) ?_
 intro gS cS W4 hu4 hoS _
 have hml:m < offers.length:=by have:=HON.out;omega
 have hmb:decide ((m:Int) < offers.length) = true:=decide_eq_true (by omega)
 have hmn:decide (m < offers.length) = true:=decide_eq_true hml
 obtain ⟨bS,oS,pS,heS,_,_,_,_,_,_,_,_,_,_,_,_,_,cS10⟩:=(Offs.at (hoS.lies (by have:=HON.out;omega))).2.2 m hml
 cases heS
 simp only [Nat.zero_add] at cS10
 obtain ⟨gB,capB,curB,heB,hbB,hxB,_⟩:∃ g cap cur,(Value.slice (some ⟨gS,0,none⟩) offers.length cS) = .slice (some ⟨g,0,none⟩) offers.length cap ∧ V3.heap.size ≤ g ∧ Box W4 g cur 50 ∧ True:=by
  rcases hoS.2 with ⟨h,_⟩ | ⟨g,cap,cur,h1,h2,h3,_⟩
  · cases h
  · exact ⟨g,cap,cur,h1,h2,h3,trivial⟩
 cases heB
 have fS:=hxB.frozen (m * 11 + 10)
 have lS:=hxB.lt
 have H4:=hide (And.intro hu4 (And.intro hoS hbB))
 have HML:=hide hml
 clear hu4 hoS hbB hxB
 go_wp2_with fail
 refine forgetW (fun U=>Up V3 U ∧ Lst TOff (fun _=>True) U (.slice (some ⟨gS,0,none⟩) offers.length cS) (sureAt offers m)) ⟨H4.out.1.setCell (q:=⟨gS,m * 11 + 10,none⟩) H4.out.2.2 _,?_⟩ ?_
 · have h:=(H4.out.2.1.sure HML.out).lies (by unfold sureAt;rw [List.length_modify];have:=HON.out;omega)
   exact h.mono fun _ _ _=>trivial
 clear H4 cS10 fS lS hmb hmn
 intro V5 h5
 have H5:=hide (And.intro (H3.out.up h5.1) h5.2)
 clear h5 H3
 have hon:=HON.out
 subst hon
 clear HON
 obtain ⟨P,hP⟩:∃ P,P = wrap64 (2 ^ m):=⟨_,rfl⟩
 rw [← hP]
 obtain ⟨L,hL⟩:∃ L,L = bits BinOp.andNot IntKind.i64 choice P:=⟨_,rfl⟩
 rw [← hL]
 obtain ⟨RA,hRA⟩:∃ R,R = worstT (tabV s d 0 set offers) (sureO offers) set.length f (chL L offers.length):=⟨_,rfl⟩
 obtain ⟨RB,hRB⟩:∃ R,R = worstT (tabV s d 0 set offers) (sureO offers) set.length f (chL (bits .or .i64 L P) offers.length):=⟨_,rfl⟩
 obtain ⟨RC,hRC⟩:∃ R,R = worstT (tabV s d 0 set offers) (sureO offers) set.length (f + 1) (chL choice offers.length):=⟨_,rfl⟩
 obtain ⟨RF,hRF⟩:∃ R,R = worstT (tabV s d 0 set offers) (sureO offers) set.length f (chL choice offers.length):=⟨_,rfl⟩
 obtain ⟨RJ,hRJ⟩:∃ R,R = worstT (tabV s d 0 set (sureAt offers m)) (sureO (sureAt offers m)) set.length f (chL choice offers.length):=⟨_,rfl⟩
 have hBA:RB ≤ RA:=by
  rw [hRA,hRB]
  refine worst_more (chL_nodup _ _) fun o ho=>?_
  obtain ⟨i,hi,hb,rfl⟩:=mem_chL.1 ho
  exact mem_chL.2 ⟨i,hi,bit_or (by omega) hb,rfl⟩
 have hCF:RF ≤ RC:=by rw [hRC,hRF];exact worst_fail _ _ _ _ _
 have hJF:RJ ≤ RF:=by rw [hRJ,hRF,tabV_sure];exact worst_surer (sureO_sure offers m) _ _ _
 have HCMP:=hide (And.intro hBA (And.intro hCF hJF))
 have HRA:=hide hRA
 have HRB:=hide hRB
 have HRC:=hide hRC
 have HRF:=hide hRF
 have HRJ:=hide hRJ
 have HES:=hide (show watchE s d 0 set (sureAt offers m) = 0 by rw [watchE_sure];exact HE.out.symm)
 clear hRA hRB hRC hRF hRJ hBA hCF hJF hL
 have hS0:=hide (show Box V5.drew q1 #[.slice a n c,.int .i64 home,.slice sa sn sc,.slice ca cn cc] 29 ∧ Box V5.drew q2 #[.int .i64 (d.l.1),.int .i64 (d.l.2),.int .i64 (d.h.1),.int .i64 (d.h.2),.int .i64 (d.g)] 33 from ⟨H5.out.1.s.drew,H5.out.1.d.drew⟩)
 refine wp_region_L (fun W'=>Box W' q1 #[.slice a n c,.int .i64 home,.slice sa sn sc,.slice ca cn cc] 29 ∧ Box W' q2 #[.int .i64 (d.l.1),.int .i64 (d.l.2),.int .i64 (d.h.1),.int .i64 (d.h.2),.int .i64 (d.g)] 33) 14 (by kernel_rfl) ?_
 refine anyL_take 0 (v:=(.agg #[.slice a n c,.int .i64 home,.slice sa sn sc,.slice ca cn cc])) rfl (by kernel_rfl) (fun _ _ _ h=>h) (.inl ⟨rfl,fun W' hW'=>by have e0:=Box.cell hW'.1 0 rfl;have e1:=Box.cell hW'.1 1 rfl;have e2:=Box.cell hW'.1 2 rfl;have e3:=Box.cell hW'.1 3 rfl;simp [go_sem,e0,e1,e2,e3]⟩) hS0.out ?_
 simp only [Act.put,List.setIfInBounds_toArray,List.set_cons_zero,List.set_cons_succ]
 refine anyL_take 1 (v:=(.agg #[.int .i64 (d.l.1),.int .i64 (d.l.2),.int .i64 (d.h.1),.int .i64 (d.h.2),.int .i64 (d.g)])) rfl (by kernel_rfl) (fun _ _ _ h=>h) (.inl ⟨rfl,fun W' hW'=>by have e0:=Box.cell hW'.2 0 rfl;have e1:=Box.cell hW'.2 1 rfl;have e2:=Box.cell hW'.2 2 rfl;have e3:=Box.cell hW'.2 3 rfl;have e4:=Box.cell hW'.2 4 rfl;simp [go_sem,e0,e1,e2,e3,e4]⟩) hS0.out ?_
 simp only [Act.put,List.setIfInBounds_toArray,List.set_cons_zero,List.set_cons_succ]
 refine anyL_take 2 (v:=(.slice ba bn bc)) rfl (by kernel_rfl) (fun _ _ _ h=>h) (.inl ⟨rfl,fun W' hW'=>by simp [go_sem]⟩) hS0.out ?_
 simp only [Act.put,List.setIfInBounds_toArray,List.set_cons_zero,List.set_cons_succ]
 refine anyL_take 3 (v:=(.slice oa offers.length oc)) rfl (by kernel_rfl) (fun _ _ _ h=>h) (.inl ⟨rfl,fun W' hW'=>by simp [go_sem]⟩) hS0.out ?_
 simp only [Act.put,List.setIfInBounds_toArray,List.set_cons_zero,List.set_cons_succ]
 refine anyL_take 4 (v:=(.int .i64 L)) rfl (by kernel_rfl) (fun _ _ _ h=>h) (.inl ⟨rfl,fun W' hW'=>by simp [go_sem]⟩) hS0.out ?_
 simp only [Act.put,List.setIfInBounds_toArray,List.set_cons_zero,List.set_cons_succ]
 refine anyL_take 5 (v:=(.slice oa offers.length oc)) rfl (by kernel_rfl) (fun _ _ _ h=>h) (.inl ⟨rfl,fun W' hW'=>by simp [go_sem]⟩) hS0.out ?_
 simp only [Act.put,List.setIfInBounds_toArray,List.set_cons_zero,List.set_cons_succ]
 refine anyL_take 6 (v:=(.int .i64 offers.length)) rfl (by kernel_rfl) (fun _ _ _ h=>h) (.inl ⟨rfl,fun W' hW'=>by simp [go_sem]⟩) hS0.out ?_
 simp only [Act.put,List.setIfInBounds_toArray,List.set_cons_zero,List.set_cons_succ]
 refine anyL_take 8 (v:=(.int .i64 f)) rfl (by kernel_rfl) (fun _ _ _ h=>h) (.inl ⟨rfl,fun W' hW'=>by simp [go_sem]⟩) hS0.out ?_
 simp only [Act.put,List.setIfInBounds_toArray,List.set_cons_zero,List.set_cons_succ]
 refine anyL_one (i:=7) (by kernel_rfl) rfl (fun KK HK=>?_)
 go_wp2_with fail
 go_at_call 14
 refine (chosen_any (L) (n:=offers.length) (by omega) _).mono ?_
 rintro _ Wc ⟨ia,inn,icc,pc,rfl,hch,hWc⟩
 have huc:Up V5 Wc:=by rw [hWc];exact (by repeat (first | with_reducible exact Up.refl _ | with_reducible apply Up.plus | apply Up.ext | apply Up.alloc | apply Up.drew | (refine Up.setCell ?_ (by simp;try omega) _)))
 have HCH:=hide (And.intro hch huc)
 clear hWc hch huc hS0
 have HX:=hide (And.intro (H5.out.1.up HCH.out.2) (H5.out.2.up HCH.out.2))
 go_wp2_with fail
 refine HK.out _ _ (fun _=>⟨HX.out.1.s,HX.out.1.d⟩) ?_
 clear HK
 refine anyL_one (i:=9) (by kernel_rfl) rfl (fun KK HK=>?_)
 go_wp2_with fail
 go_at_call 13
 refine (worst_chosen HD hhome HX.out.1.l d HX.out.1.b HX.out.1.o HCH.out.1 HE.out.symm f (by omega) HRA.out).mono ?_
 intro pw
 go_wp2_with fail
 refine HK.out _ _ (fun _=>⟨HX.out.1.s.ext _,HX.out.1.d.ext _⟩) ?_
 clear HK
 refine anyL_one (i:=10) (by kernel_rfl) rfl (fun KK HK=>?_)
 go_wp2_with fail
 refine HK.out _ _ (fun _=>⟨HX.out.1.s.ext _,HX.out.1.d.ext _⟩) ?_
 clear HK
 refine anyL_take 11 (v:=(.int .i64 RA)) rfl (by kernel_rfl) (fun _ _ _ h=>h) (.inl ⟨rfl,fun W' hW'=>by simp [go_sem]⟩) ⟨HX.out.1.s.ext _,HX.out.1.d.ext _⟩ ?_
 simp only [Act.put,List.setIfInBounds_toArray,List.set_cons_zero,List.set_cons_succ]
 refine anyL_take 12 (v:=(.int .i64 0)) rfl (by kernel_rfl) (fun _ _ _ h=>h) (.inl ⟨rfl,fun W' hW'=>by simp [go_sem]⟩) ⟨HX.out.1.s.ext _,HX.out.1.d.ext _⟩ ?_
 simp only [Act.put,List.setIfInBounds_toArray,List.set_cons_zero,List.set_cons_succ]
 refine anyL_one (i:=13) (by kernel_rfl) rfl (fun KK HK=>?_)
 go_wp2_with fail
 refine HK.out _ _ (fun _=>⟨HX.out.1.s.ext _,HX.out.1.d.ext _⟩) ?_
 clear HK
 refine anyL_one (i:=14) (by kernel_rfl) rfl (fun KK HK=>?_)
 go_wp2_with fail
 refine HK.out _ _ (fun h=>(h rfl).elim) ?_
 clear HK
 refine anyL_done (by kernel_rfl) ?_
 go_wp2_with fail
 refine forgetW (fun U=>WmS w K a n c sa sn sc ca cn cc s home d ba bn bc set oa offers.length oc offers q1 q2  U ∧ Lst TOff (fun _=>True) U (.slice (some ⟨gS,0,none⟩) offers.length cS) (sureAt offers m)) ⟨HX.out.1.up (by repeat (first | with_reducible exact Up.refl _ | with_reducible apply Up.plus | apply Up.ext | apply Up.alloc | apply Up.drew | (refine Up.setCell ?_ (by simp;try omega) _))),HX.out.2.up (by repeat (first | with_reducible exact Up.refl _ | with_reducible apply Up.plus | apply Up.ext | apply Up.alloc | apply Up.drew | (refine Up.setCell ?_ (by simp;try omega) _)))⟩ ?_
 clear HX HCH H5
 intro V6 hV6
 have H6:=hide hV6
 clear hV6
 have hS0:=hide (show Box V6.drew q1 #[.slice a n c,.int .i64 home,.slice sa sn sc,.slice ca cn cc] 29 ∧ Box V6.drew q2 #[.int .i64 (d.l.1),.int .i64 (d.l.2),.int .i64 (d.h.1),.int .i64 (d.h.2),.int .i64 (d.g)] 33 from ⟨H6.out.1.s.drew,H6.out.1.d.drew⟩)
 refine wp_region_L (fun W'=>Box W' q1 #[.slice a n c,.int .i64 home,.slice sa sn sc,.slice ca cn cc] 29 ∧ Box W' q2 #[.int .i64 (d.l.1),.int .i64 (d.l.2),.int .i64 (d.h.1),.int .i64 (d.h.2),.int .i64 (d.g)] 33) 18 (by kernel_rfl) ?_
 refine anyL_take 0 (v:=(.agg #[.slice a n c,.int .i64 home,.slice sa sn sc,.slice ca cn cc])) rfl (by kernel_rfl) (fun _ _ _ h=>h) (.inl ⟨rfl,fun W' hW'=>by have e0:=Box.cell hW'.1 0 rfl;have e1:=Box.cell hW'.1 1 rfl;have e2:=Box.cell hW'.1 2 rfl;have e3:=Box.cell hW'.1 3 rfl;simp [go_sem,e0,e1,e2,e3]⟩) hS0.out ?_
 simp only [Act.put,List.setIfInBounds_toArray,List.set_cons_zero,List.set_cons_succ]
 refine anyL_take 1 (v:=(.agg #[.int .i64 (d.l.1),.int .i64 (d.l.2),.int .i64 (d.h.1),.int .i64 (d.h.2),.int .i64 (d.g)])) rfl (by kernel_rfl) (fun _ _ _ h=>h) (.inl ⟨rfl,fun W' hW'=>by have e0:=Box.cell hW'.2 0 rfl;have e1:=Box.cell hW'.2 1 rfl;have e2:=Box.cell hW'.2 2 rfl;have e3:=Box.cell hW'.2 3 rfl;have e4:=Box.cell hW'.2 4 rfl;simp [go_sem,e0,e1,e2,e3,e4]⟩) hS0.out ?_
 simp only [Act.put,List.setIfInBounds_toArray,List.set_cons_zero,List.set_cons_succ]
 refine anyL_take 2 (v:=(.slice ba bn bc)) rfl (by kernel_rfl) (fun _ _ _ h=>h) (.inl ⟨rfl,fun W' hW'=>by simp [go_sem]⟩) hS0.out ?_
 simp only [Act.put,List.setIfInBounds_toArray,List.set_cons_zero,List.set_cons_succ]
 refine anyL_take 3 (v:=(.slice oa offers.length oc)) rfl (by kernel_rfl) (fun _ _ _ h=>h) (.inl ⟨rfl,fun W' hW'=>by simp [go_sem]⟩) hS0.out ?_
 simp only [Act.put,List.setIfInBounds_toArray,List.set_cons_zero,List.set_cons_succ]
 refine anyL_take 4 (v:=(.int .i64 L)) rfl (by kernel_rfl) (fun _ _ _ h=>h) (.inl ⟨rfl,fun W' hW'=>by simp [go_sem]⟩) hS0.out ?_
 simp only [Act.put,List.setIfInBounds_toArray,List.set_cons_zero,List.set_cons_succ]
 refine anyL_take 5 (v:=(.int .i64 m)) rfl (by kernel_rfl) (fun _ _ _ h=>h) (.inl ⟨rfl,fun W' hW'=>by simp [go_sem]⟩) hS0.out ?_
 simp only [Act.put,List.setIfInBounds_toArray,List.set_cons_zero,List.set_cons_succ]
 refine anyL_take 9 (v:=(.slice oa offers.length oc)) rfl (by kernel_rfl) (fun _ _ _ h=>h) (.inl ⟨rfl,fun W' hW'=>by simp [go_sem]⟩) hS0.out ?_
 simp only [Act.put,List.setIfInBounds_toArray,List.set_cons_zero,List.set_cons_succ]
 refine anyL_take 10 (v:=(.int .i64 offers.length)) rfl (by kernel_rfl) (fun _ _ _ h=>h) (.inl ⟨rfl,fun W' hW'=>by simp [go_sem]⟩) hS0.out ?_
 simp only [Act.put,List.setIfInBounds_toArray,List.set_cons_zero,List.set_cons_succ]
 refine anyL_take 12 (v:=(.int .i64 f)) rfl (by kernel_rfl) (fun _ _ _ h=>h) (.inl ⟨rfl,fun W' hW'=>by simp [go_sem]⟩) hS0.out ?_
 simp only [Act.put,List.setIfInBounds_toArray,List.set_cons_zero,List.set_cons_succ]
 refine anyL_one (i:=6) (by kernel_rfl) rfl (fun KK HK=>?_)
 go_wp2_with fail
 refine HK.out _ _ (fun _=>hS0.out) ?_
 clear HK
 refine anyL_one (i:=7) (by kernel_rfl) rfl (fun KK HK=>?_)
 go_wp2_with fail
 try rw [← hP]
 refine HK.out _ _ (fun _=>hS0.out) ?_
 clear HK
 refine anyL_one (i:=8) (by kernel_rfl) rfl (fun KK HK=>?_)
 go_wp2_with fail
 refine HK.out _ _ (fun _=>hS0.out) ?_
 clear HK
 refine anyL_one (i:=11) (by kernel_rfl) rfl (fun KK HK=>?_)
 go_wp2_with fail
 go_at_call 14
 rw [← hP]
 refine (chosen_any (bits .or .i64 L P) (n:=offers.length) (by omega) _).mono ?_
 rintro _ Wc ⟨ia,inn,icc,pc,rfl,hch,hWc⟩
 have huc:Up V6 Wc:=by rw [hWc];exact (by repeat (first | with_reducible exact Up.refl _ | with_reducible apply Up.plus | apply Up.ext | apply Up.alloc | apply Up.drew | (refine Up.setCell ?_ (by simp;try omega) _)))
 have HCH:=hide (And.intro hch huc)
 clear hWc hch huc hS0
 have HX:=hide (And.intro (H6.out.1.up HCH.out.2) (H6.out.2.up HCH.out.2))
 go_wp2_with fail
 refine HK.out _ _ (fun _=>⟨HX.out.1.s,HX.out.1.d⟩) ?_
 clear HK
 refine anyL_one (i:=13) (by kernel_rfl) rfl (fun KK HK=>?_)
 go_wp2_with fail
 go_at_call 13
 refine (worst_chosen HD hhome HX.out.1.l d HX.out.1.b HX.out.1.o HCH.out.1 HE.out.symm f (by omega) HRB.out).mono ?_
 intro pw
 go_wp2_with fail
 refine HK.out _ _ (fun _=>⟨HX.out.1.s.ext _,HX.out.1.d.ext _⟩) ?_
 clear HK
 refine anyL_one (i:=14) (by kernel_rfl) rfl (fun KK HK=>?_)
 go_wp2_with fail
 refine HK.out _ _ (fun _=>⟨HX.out.1.s.ext _,HX.out.1.d.ext _⟩) ?_
 clear HK
 refine anyL_take 15 (v:=(.int .i64 RB)) rfl (by kernel_rfl) (fun _ _ _ h=>h) (.inl ⟨rfl,fun W' hW'=>by simp [go_sem]⟩) ⟨HX.out.1.s.ext _,HX.out.1.d.ext _⟩ ?_
 simp only [Act.put,List.setIfInBounds_toArray,List.set_cons_zero,List.set_cons_succ]
 refine anyL_take 16 (v:=(.int .i64 0)) rfl (by kernel_rfl) (fun _ _ _ h=>h) (.inl ⟨rfl,fun W' hW'=>by simp [go_sem]⟩) ⟨HX.out.1.s.ext _,HX.out.1.d.ext _⟩ ?_
 simp only [Act.put,List.setIfInBounds_toArray,List.set_cons_zero,List.set_cons_succ]
 refine anyL_one (i:=17) (by kernel_rfl) rfl (fun KK HK=>?_)
 go_wp2_with fail
 refine HK.out _ _ (fun _=>⟨HX.out.1.s.ext _,HX.out.1.d.ext _⟩) ?_
 clear HK
 refine anyL_one (i:=18) (by kernel_rfl) rfl (fun KK HK=>?_)
 go_wp2_with fail
 refine HK.out _ _ (fun h=>(h rfl).elim) ?_
 clear HK
 refine anyL_done (by kernel_rfl) ?_
 go_wp2_with fail
 refine forgetW (fun U=>WmS w K a n c sa sn sc ca cn cc s home d ba bn bc set oa offers.length oc offers q1 q2  U ∧ Lst TOff (fun _=>True) U (.slice (some ⟨gS,0,none⟩) offers.length cS) (sureAt offers m)) ⟨HX.out.1.up (by repeat (first | with_reducible exact Up.refl _ | with_reducible apply Up.plus | apply Up.ext | apply Up.alloc | apply Up.drew | (refine Up.setCell ?_ (by simp;try omega) _))),HX.out.2.up (by repeat (first | with_reducible exact Up.refl _ | with_reducible apply Up.plus | apply Up.ext | apply Up.alloc | apply Up.drew | (refine Up.setCell ?_ (by simp;try omega) _)))⟩ ?_
 clear HX HCH H6
 intro V7 hV7
 have H7:=hide hV7
 clear hV7
 have hS0:=hide (show Box V7.drew q1 #[.slice a n c,.int .i64 home,.slice sa sn sc,.slice ca cn cc] 29 ∧ Box V7.drew q2 #[.int .i64 (d.l.1),.int .i64 (d.l.2),.int .i64 (d.h.1),.int .i64 (d.h.2),.int .i64 (d.g)] 33 from ⟨H7.out.1.s.drew,H7.out.1.d.drew⟩)
 refine wp_region_L (fun W'=>Box W' q1 #[.slice a n c,.int .i64 home,.slice sa sn sc,.slice ca cn cc] 29 ∧ Box W' q2 #[.int .i64 (d.l.1),.int .i64 (d.l.2),.int .i64 (d.h.1),.int .i64 (d.h.2),.int .i64 (d.g)] 33) 15 (by kernel_rfl) ?_
 refine anyL_take 0 (v:=(.agg #[.slice a n c,.int .i64 home,.slice sa sn sc,.slice ca cn cc])) rfl (by kernel_rfl) (fun _ _ _ h=>h) (.inl ⟨rfl,fun W' hW'=>by have e0:=Box.cell hW'.1 0 rfl;have e1:=Box.cell hW'.1 1 rfl;have e2:=Box.cell hW'.1 2 rfl;have e3:=Box.cell hW'.1 3 rfl;simp [go_sem,e0,e1,e2,e3]⟩) hS0.out ?_
 simp only [Act.put,List.setIfInBounds_toArray,List.set_cons_zero,List.set_cons_succ]
 refine anyL_take 1 (v:=(.agg #[.int .i64 (d.l.1),.int .i64 (d.l.2),.int .i64 (d.h.1),.int .i64 (d.h.2),.int .i64 (d.g)])) rfl (by kernel_rfl) (fun _ _ _ h=>h) (.inl ⟨rfl,fun W' hW'=>by have e0:=Box.cell hW'.2 0 rfl;have e1:=Box.cell hW'.2 1 rfl;have e2:=Box.cell hW'.2 2 rfl;have e3:=Box.cell hW'.2 3 rfl;have e4:=Box.cell hW'.2 4 rfl;simp [go_sem,e0,e1,e2,e3,e4]⟩) hS0.out ?_
 simp only [Act.put,List.setIfInBounds_toArray,List.set_cons_zero,List.set_cons_succ]
 refine anyL_take 2 (v:=(.slice ba bn bc)) rfl (by kernel_rfl) (fun _ _ _ h=>h) (.inl ⟨rfl,fun W' hW'=>by simp [go_sem]⟩) hS0.out ?_
 simp only [Act.put,List.setIfInBounds_toArray,List.set_cons_zero,List.set_cons_succ]
 refine anyL_take 3 (v:=(.slice oa offers.length oc)) rfl (by kernel_rfl) (fun _ _ _ h=>h) (.inl ⟨rfl,fun W' hW'=>by simp [go_sem]⟩) hS0.out ?_
 simp only [Act.put,List.setIfInBounds_toArray,List.set_cons_zero,List.set_cons_succ]
 refine anyL_take 4 (v:=(.int .i64 choice)) rfl (by kernel_rfl) (fun _ _ _ h=>h) (.inl ⟨rfl,fun W' hW'=>by simp [go_sem]⟩) hS0.out ?_
 simp only [Act.put,List.setIfInBounds_toArray,List.set_cons_zero,List.set_cons_succ]
 refine anyL_take 5 (v:=(.slice oa offers.length oc)) rfl (by kernel_rfl) (fun _ _ _ h=>h) (.inl ⟨rfl,fun W' hW'=>by simp [go_sem]⟩) hS0.out ?_
 simp only [Act.put,List.setIfInBounds_toArray,List.set_cons_zero,List.set_cons_succ]
 refine anyL_take 6 (v:=(.int .i64 offers.length)) rfl (by kernel_rfl) (fun _ _ _ h=>h) (.inl ⟨rfl,fun W' hW'=>by simp [go_sem]⟩) hS0.out ?_
 simp only [Act.put,List.setIfInBounds_toArray,List.set_cons_zero,List.set_cons_succ]
 refine anyL_take 8 (v:=(.int .i64 f)) rfl (by kernel_rfl) (fun _ _ _ h=>h) (.inl ⟨rfl,fun W' hW'=>by simp [go_sem]⟩) hS0.out ?_
 simp only [Act.put,List.setIfInBounds_toArray,List.set_cons_zero,List.set_cons_succ]
 refine anyL_take 9 (v:=(.int .i64 ((f:Int) + 1))) rfl (by kernel_rfl) (fun _ _ _ h=>h) (.inl ⟨rfl,fun W' hW'=>by simp [go_sem];rw [IntKind.wrap_i64];omega⟩) hS0.out ?_
 simp only [Act.put,List.setIfInBounds_toArray,List.set_cons_zero,List.set_cons_succ]
 refine anyL_one (i:=7) (by kernel_rfl) rfl (fun KK HK=>?_)
 go_wp2_with fail
 go_at_call 14
 refine (chosen_any (choice) (n:=offers.length) (by omega) _).mono ?_
 rintro _ Wc ⟨ia,inn,icc,pc,rfl,hch,hWc⟩
 have huc:Up V7 Wc:=by rw [hWc];exact (by repeat (first | with_reducible exact Up.refl _ | with_reducible apply Up.plus | apply Up.ext | apply Up.alloc | apply Up.drew | (refine Up.setCell ?_ (by simp;try omega) _)))
 have HCH:=hide (And.intro hch huc)
 clear hWc hch huc hS0
 have HX:=hide (And.intro (H7.out.1.up HCH.out.2) (H7.out.2.up HCH.out.2))
 go_wp2_with fail
 refine HK.out _ _ (fun _=>⟨HX.out.1.s,HX.out.1.d⟩) ?_
 clear HK
 refine anyL_one (i:=10) (by kernel_rfl) rfl (fun KK HK=>?_)
 go_wp2_with fail
 go_at_call 13
 rw [show ((f:Nat):Int) + 1 = ((f + 1:Nat):Int) from by omega]
 refine (worst_chosen HD hhome HX.out.1.l d HX.out.1.b HX.out.1.o HCH.out.1 HE.out.symm (f + 1) (by omega) HRC.out).mono ?_
 intro pw
 go_wp2_with fail
 refine HK.out _ _ (fun _=>⟨HX.out.1.s.ext _,HX.out.1.d.ext _⟩) ?_
 clear HK
 refine anyL_one (i:=11) (by kernel_rfl) rfl (fun KK HK=>?_)
 go_wp2_with fail
 refine HK.out _ _ (fun _=>⟨HX.out.1.s.ext _,HX.out.1.d.ext _⟩) ?_
 clear HK
 refine anyL_take 12 (v:=(.int .i64 RC)) rfl (by kernel_rfl) (fun _ _ _ h=>h) (.inl ⟨rfl,fun W' hW'=>by simp [go_sem]⟩) ⟨HX.out.1.s.ext _,HX.out.1.d.ext _⟩ ?_
 simp only [Act.put,List.setIfInBounds_toArray,List.set_cons_zero,List.set_cons_succ]
 refine anyL_take 13 (v:=(.int .i64 0)) rfl (by kernel_rfl) (fun _ _ _ h=>h) (.inl ⟨rfl,fun W' hW'=>by simp [go_sem]⟩) ⟨HX.out.1.s.ext _,HX.out.1.d.ext _⟩ ?_
 simp only [Act.put,List.setIfInBounds_toArray,List.set_cons_zero,List.set_cons_succ]
 refine anyL_one (i:=14) (by kernel_rfl) rfl (fun KK HK=>?_)
 go_wp2_with fail
 refine HK.out _ _ (fun _=>⟨HX.out.1.s.ext _,HX.out.1.d.ext _⟩) ?_
 clear HK
 refine anyL_one (i:=15) (by kernel_rfl) rfl (fun KK HK=>?_)
 go_wp2_with fail
 refine HK.out _ _ (fun h=>(h rfl).elim) ?_
 clear HK
 refine anyL_done (by kernel_rfl) ?_
 go_wp2_with fail
 refine forgetW (fun U=>WmS w K a n c sa sn sc ca cn cc s home d ba bn bc set oa offers.length oc offers q1 q2  U ∧ Lst TOff (fun _=>True) U (.slice (some ⟨gS,0,none⟩) offers.length cS) (sureAt offers m)) ⟨HX.out.1.up (by repeat (first | with_reducible exact Up.refl _ | with_reducible apply Up.plus | apply Up.ext | apply Up.alloc | apply Up.drew | (refine Up.setCell ?_ (by simp;try omega) _))),HX.out.2.up (by repeat (first | with_reducible exact Up.refl _ | with_reducible apply Up.plus | apply Up.ext | apply Up.alloc | apply Up.drew | (refine Up.setCell ?_ (by simp;try omega) _)))⟩ ?_
 clear HX HCH H7
 intro V8 hV8
 have H8:=hide hV8
 clear hV8
 have hS0:=hide (show Box V8.drew q1 #[.slice a n c,.int .i64 home,.slice sa sn sc,.slice ca cn cc] 29 ∧ Box V8.drew q2 #[.int .i64 (d.l.1),.int .i64 (d.l.2),.int .i64 (d.h.1),.int .i64 (d.h.2),.int .i64 (d.g)] 33 from ⟨H8.out.1.s.drew,H8.out.1.d.drew⟩)
 refine wp_region_L (fun W'=>Box W' q1 #[.slice a n c,.int .i64 home,.slice sa sn sc,.slice ca cn cc] 29 ∧ Box W' q2 #[.int .i64 (d.l.1),.int .i64 (d.l.2),.int .i64 (d.h.1),.int .i64 (d.h.2),.int .i64 (d.g)] 33) 14 (by kernel_rfl) ?_
 refine anyL_take 0 (v:=(.agg #[.slice a n c,.int .i64 home,.slice sa sn sc,.slice ca cn cc])) rfl (by kernel_rfl) (fun _ _ _ h=>h) (.inl ⟨rfl,fun W' hW'=>by have e0:=Box.cell hW'.1 0 rfl;have e1:=Box.cell hW'.1 1 rfl;have e2:=Box.cell hW'.1 2 rfl;have e3:=Box.cell hW'.1 3 rfl;simp [go_sem,e0,e1,e2,e3]⟩) hS0.out ?_
 simp only [Act.put,List.setIfInBounds_toArray,List.set_cons_zero,List.set_cons_succ]
 refine anyL_take 1 (v:=(.agg #[.int .i64 (d.l.1),.int .i64 (d.l.2),.int .i64 (d.h.1),.int .i64 (d.h.2),.int .i64 (d.g)])) rfl (by kernel_rfl) (fun _ _ _ h=>h) (.inl ⟨rfl,fun W' hW'=>by have e0:=Box.cell hW'.2 0 rfl;have e1:=Box.cell hW'.2 1 rfl;have e2:=Box.cell hW'.2 2 rfl;have e3:=Box.cell hW'.2 3 rfl;have e4:=Box.cell hW'.2 4 rfl;simp [go_sem,e0,e1,e2,e3,e4]⟩) hS0.out ?_
 simp only [Act.put,List.setIfInBounds_toArray,List.set_cons_zero,List.set_cons_succ]
 refine anyL_take 2 (v:=(.slice ba bn bc)) rfl (by kernel_rfl) (fun _ _ _ h=>h) (.inl ⟨rfl,fun W' hW'=>by simp [go_sem]⟩) hS0.out ?_
 simp only [Act.put,List.setIfInBounds_toArray,List.set_cons_zero,List.set_cons_succ]
 refine anyL_take 3 (v:=(.slice oa offers.length oc)) rfl (by kernel_rfl) (fun _ _ _ h=>h) (.inl ⟨rfl,fun W' hW'=>by simp [go_sem]⟩) hS0.out ?_
 simp only [Act.put,List.setIfInBounds_toArray,List.set_cons_zero,List.set_cons_succ]
 refine anyL_take 4 (v:=(.int .i64 choice)) rfl (by kernel_rfl) (fun _ _ _ h=>h) (.inl ⟨rfl,fun W' hW'=>by simp [go_sem]⟩) hS0.out ?_
 simp only [Act.put,List.setIfInBounds_toArray,List.set_cons_zero,List.set_cons_succ]
 refine anyL_take 5 (v:=(.slice oa offers.length oc)) rfl (by kernel_rfl) (fun _ _ _ h=>h) (.inl ⟨rfl,fun W' hW'=>by simp [go_sem]⟩) hS0.out ?_
 simp only [Act.put,List.setIfInBounds_toArray,List.set_cons_zero,List.set_cons_succ]
 refine anyL_take 6 (v:=(.int .i64 offers.length)) rfl (by kernel_rfl) (fun _ _ _ h=>h) (.inl ⟨rfl,fun W' hW'=>by simp [go_sem]⟩) hS0.out ?_
 simp only [Act.put,List.setIfInBounds_toArray,List.set_cons_zero,List.set_cons_succ]
 refine anyL_take 8 (v:=(.int .i64 f)) rfl (by kernel_rfl) (fun _ _ _ h=>h) (.inl ⟨rfl,fun W' hW'=>by simp [go_sem]⟩) hS0.out ?_
 simp only [Act.put,List.setIfInBounds_toArray,List.set_cons_zero,List.set_cons_succ]
 refine anyL_one (i:=7) (by kernel_rfl) rfl (fun KK HK=>?_)
 go_wp2_with fail
 go_at_call 14
 refine (chosen_any (choice) (n:=offers.length) (by omega) _).mono ?_
 rintro _ Wc ⟨ia,inn,icc,pc,rfl,hch,hWc⟩
 have huc:Up V8 Wc:=by rw [hWc];exact (by repeat (first | with_reducible exact Up.refl _ | with_reducible apply Up.plus | apply Up.ext | apply Up.alloc | apply Up.drew | (refine Up.setCell ?_ (by simp;try omega) _)))
 have HCH:=hide (And.intro hch huc)
 clear hWc hch huc hS0
 have HX:=hide (And.intro (H8.out.1.up HCH.out.2) (H8.out.2.up HCH.out.2))
 go_wp2_with fail
 refine HK.out _ _ (fun _=>⟨HX.out.1.s,HX.out.1.d⟩) ?_
 clear HK
 refine anyL_one (i:=9) (by kernel_rfl) rfl (fun KK HK=>?_)
 go_wp2_with fail
 go_at_call 13
 refine (worst_chosen HD hhome HX.out.1.l d HX.out.1.b HX.out.1.o HCH.out.1 HE.out.symm f (by omega) HRF.out).mono ?_
 intro pw
 go_wp2_with fail
 refine HK.out _ _ (fun _=>⟨HX.out.1.s.ext _,HX.out.1.d.ext _⟩) ?_
 clear HK
 refine anyL_one (i:=10) (by kernel_rfl) rfl (fun KK HK=>?_)
 go_wp2_with fail
 refine HK.out _ _ (fun _=>⟨HX.out.1.s.ext _,HX.out.1.d.ext _⟩) ?_
 clear HK
 refine anyL_take 11 (v:=(.int .i64 RF)) rfl (by kernel_rfl) (fun _ _ _ h=>h) (.inl ⟨rfl,fun W' hW'=>by simp [go_sem]⟩) ⟨HX.out.1.s.ext _,HX.out.1.d.ext _⟩ ?_
 simp only [Act.put,List.setIfInBounds_toArray,List.set_cons_zero,List.set_cons_succ]
 refine anyL_take 12 (v:=(.int .i64 0)) rfl (by kernel_rfl) (fun _ _ _ h=>h) (.inl ⟨rfl,fun W' hW'=>by simp [go_sem]⟩) ⟨HX.out.1.s.ext _,HX.out.1.d.ext _⟩ ?_
 simp only [Act.put,List.setIfInBounds_toArray,List.set_cons_zero,List.set_cons_succ]
 refine anyL_one (i:=13) (by kernel_rfl) rfl (fun KK HK=>?_)
 go_wp2_with fail
 refine HK.out _ _ (fun _=>⟨HX.out.1.s.ext _,HX.out.1.d.ext _⟩) ?_
 clear HK
 refine anyL_one (i:=14) (by kernel_rfl) rfl (fun KK HK=>?_)
 go_wp2_with fail
 refine HK.out _ _ (fun h=>(h rfl).elim) ?_
 clear HK
 refine anyL_done (by kernel_rfl) ?_
 go_wp2_with fail
 refine forgetW (fun U=>WmS w K a n c sa sn sc ca cn cc s home d ba bn bc set oa offers.length oc offers q1 q2  U ∧ Lst TOff (fun _=>True) U (.slice (some ⟨gS,0,none⟩) offers.length cS) (sureAt offers m)) ⟨HX.out.1.up (by repeat (first | with_reducible exact Up.refl _ | with_reducible apply Up.plus | apply Up.ext | apply Up.alloc | apply Up.drew | (refine Up.setCell ?_ (by simp;try omega) _))),HX.out.2.up (by repeat (first | with_reducible exact Up.refl _ | with_reducible apply Up.plus | apply Up.ext | apply Up.alloc | apply Up.drew | (refine Up.setCell ?_ (by simp;try omega) _)))⟩ ?_
 clear HX HCH H8
 intro V9 hV9
 have H9:=hide hV9
 clear hV9
 have c1:decide ((RB:Int) ≤ RA) = true:=decide_eq_true (by have:=HCMP.out.1;omega)
 have c2:decide ((RF:Int) ≤ RC) = true:=decide_eq_true (by have:=HCMP.out.2.1;omega)
 have c3:decide ((RJ:Int) ≤ RF) = true:=decide_eq_true (by have:=HCMP.out.2.2;omega)
 have d1:decide (RB ≤ RA) = true:=decide_eq_true HCMP.out.1
 have d2:decide (RF ≤ RC) = true:=decide_eq_true HCMP.out.2.1
 have d3:decide (RJ ≤ RF) = true:=decide_eq_true HCMP.out.2.2
 have hS0:=hide (show Box V9.drew q1 #[.slice a n c,.int .i64 home,.slice sa sn sc,.slice ca cn cc] 29 ∧ Box V9.drew q2 #[.int .i64 (d.l.1),.int .i64 (d.l.2),.int .i64 (d.h.1),.int .i64 (d.h.2),.int .i64 (d.g)] 33 from ⟨H9.out.1.s.drew,H9.out.1.d.drew⟩)
 refine wp_region_L (fun W'=>Box W' q1 #[.slice a n c,.int .i64 home,.slice sa sn sc,.slice ca cn cc] 29 ∧ Box W' q2 #[.int .i64 (d.l.1),.int .i64 (d.l.2),.int .i64 (d.h.1),.int .i64 (d.h.2),.int .i64 (d.g)] 33) 14 (by kernel_rfl) ?_
 refine anyL_take 0 (v:=(.agg #[.slice a n c,.int .i64 home,.slice sa sn sc,.slice ca cn cc])) rfl (by kernel_rfl) (fun _ _ _ h=>h) (.inl ⟨rfl,fun W' hW'=>by have e0:=Box.cell hW'.1 0 rfl;have e1:=Box.cell hW'.1 1 rfl;have e2:=Box.cell hW'.1 2 rfl;have e3:=Box.cell hW'.1 3 rfl;simp [go_sem,e0,e1,e2,e3]⟩) hS0.out ?_
 simp only [Act.put,List.setIfInBounds_toArray,List.set_cons_zero,List.set_cons_succ]
 refine anyL_take 1 (v:=(.agg #[.int .i64 (d.l.1),.int .i64 (d.l.2),.int .i64 (d.h.1),.int .i64 (d.h.2),.int .i64 (d.g)])) rfl (by kernel_rfl) (fun _ _ _ h=>h) (.inl ⟨rfl,fun W' hW'=>by have e0:=Box.cell hW'.2 0 rfl;have e1:=Box.cell hW'.2 1 rfl;have e2:=Box.cell hW'.2 2 rfl;have e3:=Box.cell hW'.2 3 rfl;have e4:=Box.cell hW'.2 4 rfl;simp [go_sem,e0,e1,e2,e3,e4]⟩) hS0.out ?_
 simp only [Act.put,List.setIfInBounds_toArray,List.set_cons_zero,List.set_cons_succ]
 refine anyL_take 2 (v:=(.slice ba bn bc)) rfl (by kernel_rfl) (fun _ _ _ h=>h) (.inl ⟨rfl,fun W' hW'=>by simp [go_sem]⟩) hS0.out ?_
 simp only [Act.put,List.setIfInBounds_toArray,List.set_cons_zero,List.set_cons_succ]
 refine anyL_take 3 (v:=(.slice (some ⟨gS,0,none⟩) offers.length cS)) rfl (by kernel_rfl) (fun _ _ _ h=>h) (.inl ⟨rfl,fun W' hW'=>by simp [go_sem]⟩) hS0.out ?_
 simp only [Act.put,List.setIfInBounds_toArray,List.set_cons_zero,List.set_cons_succ]
 refine anyL_take 4 (v:=(.int .i64 choice)) rfl (by kernel_rfl) (fun _ _ _ h=>h) (.inl ⟨rfl,fun W' hW'=>by simp [go_sem]⟩) hS0.out ?_
 simp only [Act.put,List.setIfInBounds_toArray,List.set_cons_zero,List.set_cons_succ]
 refine anyL_take 5 (v:=(.slice oa offers.length oc)) rfl (by kernel_rfl) (fun _ _ _ h=>h) (.inl ⟨rfl,fun W' hW'=>by simp [go_sem]⟩) hS0.out ?_
 simp only [Act.put,List.setIfInBounds_toArray,List.set_cons_zero,List.set_cons_succ]
 refine anyL_take 6 (v:=(.int .i64 offers.length)) rfl (by kernel_rfl) (fun _ _ _ h=>h) (.inl ⟨rfl,fun W' hW'=>by simp [go_sem]⟩) hS0.out ?_
 simp only [Act.put,List.setIfInBounds_toArray,List.set_cons_zero,List.set_cons_succ]
 refine anyL_take 8 (v:=(.int .i64 f)) rfl (by kernel_rfl) (fun _ _ _ h=>h) (.inl ⟨rfl,fun W' hW'=>by simp [go_sem]⟩) hS0.out ?_
 simp only [Act.put,List.setIfInBounds_toArray,List.set_cons_zero,List.set_cons_succ]
 refine anyL_one (i:=7) (by kernel_rfl) rfl (fun KK HK=>?_)
 go_wp2_with fail
 go_at_call 14
 refine (chosen_any (choice) (n:=offers.length) (by omega) _).mono ?_
 rintro _ Wc ⟨ia,inn,icc,pc,rfl,hch,hWc⟩
 have huc:Up V9 Wc:=by rw [hWc];exact (by repeat (first | with_reducible exact Up.refl _ | with_reducible apply Up.plus | apply Up.ext | apply Up.alloc | apply Up.drew | (refine Up.setCell ?_ (by simp;try omega) _)))
 have HCH:=hide (And.intro hch huc)
 clear hWc hch huc hS0
 have HX:=hide (And.intro (H9.out.1.up HCH.out.2) (H9.out.2.up HCH.out.2))
 go_wp2_with fail
 refine HK.out _ _ (fun _=>⟨HX.out.1.s,HX.out.1.d⟩) ?_
 clear HK
 refine anyL_one (i:=9) (by kernel_rfl) rfl (fun KK HK=>?_)
 go_wp2_with fail
 go_at_call 13
 refine (worst_chosen HD hhome HX.out.1.l d HX.out.1.b HX.out.2 HCH.out.1 HES.out f (by omega) HRJ.out).mono ?_
 intro pw
 go_wp2_with fail
 refine HK.out _ _ (fun _=>⟨HX.out.1.s.ext _,HX.out.1.d.ext _⟩) ?_
 clear HK
 refine anyL_one (i:=10) (by kernel_rfl) rfl (fun KK HK=>?_)
 go_wp2_with fail
 refine HK.out _ _ (fun _=>⟨HX.out.1.s.ext _,HX.out.1.d.ext _⟩) ?_
 clear HK
 refine anyL_take 11 (v:=(.int .i64 RJ)) rfl (by kernel_rfl) (fun _ _ _ h=>h) (.inl ⟨rfl,fun W' hW'=>by simp [go_sem]⟩) ⟨HX.out.1.s.ext _,HX.out.1.d.ext _⟩ ?_
 simp only [Act.put,List.setIfInBounds_toArray,List.set_cons_zero,List.set_cons_succ]
 refine anyL_take 12 (v:=(.int .i64 0)) rfl (by kernel_rfl) (fun _ _ _ h=>h) (.inl ⟨rfl,fun W' hW'=>by simp [go_sem]⟩) ⟨HX.out.1.s.ext _,HX.out.1.d.ext _⟩ ?_
 simp only [Act.put,List.setIfInBounds_toArray,List.set_cons_zero,List.set_cons_succ]
 refine anyL_one (i:=13) (by kernel_rfl) rfl (fun KK HK=>?_)
 go_wp2_with fail
 refine HK.out _ _ (fun _=>⟨HX.out.1.s.ext _,HX.out.1.d.ext _⟩) ?_
 clear HK
 refine anyL_one (i:=14) (by kernel_rfl) rfl (fun KK HK=>?_)
 go_wp2_with fail
 refine HK.out _ _ (fun h=>(h rfl).elim) ?_
 clear HK
 refine anyL_done (by kernel_rfl) ?_
 go_wp2_with (go_at_call 11;(with_reducible refine (HA.out _).mono ?_);intro _)
 go_ret
 exact ⟨by first | rfl | exact ret_bool (by simp),HX.out.1.u.trans (by repeat (first | with_reducible exact Up.refl _ | with_reducible apply Up.plus | apply Up.ext | apply Up.alloc | apply Up.drew | (refine Up.setCell ?_ (by simp;try omega) _)))⟩
end Go.Proofs.YteafglginnonnaaGreat
