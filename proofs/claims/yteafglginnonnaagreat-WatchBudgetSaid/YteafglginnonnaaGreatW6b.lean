/- Several texts in one. -/
import Derived.Test.YteafglginnonnaaGreatOfferA
import Derived.Test.YteafglginnonnaaGreatModk
import Derived.Test.YteafglginnonnaaGreatTail
import Derived.Test.YteafglginnonnaaGreatWatchF
import Derived.Test.YteafglginnonnaaGreatWatchJ
/- Offers made of numbers. Conditions: how often the ring was asked, and what lies in memory. -/
set_option linter.unusedVariables false
set_option linter.unusedSimpArgs false
namespace Go.Proofs.YteafglginnonnaaGreat
open Go.RowKit Go.Shelf
structure OfS (W:World) (B:Nat) (sky:Array Value) (px py:Int) (Q:Nat) (n:Int) (v:Array Value) (U:World):Prop where
 r:RingAt W B n U
 q:Box U Q v 50
 s:Box U W.heap.size sky 29
 p:Box U (W.heap.size+1) #[.int .i64 (px),.int .i64 (py)] 48
 z:Box U (W.heap.size+1+1) #[.int .i64 0,.int .i64 0,.int .i64 0,.int .i64 0,.int .i64 0,.int .i64 0,.int .i64 0,.int .i64 0,.int .i64 0,.int .i64 0,.bool false] 50
section
variable {W:World} {B:Nat} {sky:Array Value} {px py:Int} {Q:Nat} {n:Int} {v:Array Value} {U:World}
theorem OfS.ext (h:OfS W B sky px py Q n v U) (p:Ext):OfS W B sky px py Q n v (Go.Proofs.YteafglginnonnaaGreat.ext U p):=⟨h.r.ext p,h.q.ext p,h.s.ext p,h.p.ext p,h.z.ext p⟩
theorem OfS.alloc (h:OfS W B sky px py Q n v U) (o:Obj):OfS W B sky px py Q n v (U.alloc o):=⟨h.r.alloc o,h.q.alloc o,h.s.alloc o,h.p.alloc o,h.z.alloc o⟩
theorem OfS.drew (h:OfS W B sky px py Q n v U):OfS W B sky px py Q n v U.drew:=⟨h.r.drew,h.q.drew,h.s.drew,h.p.drew,h.z.drew⟩
theorem OfS.grown {U':World} {m:Int} (h:OfS W B sky px py Q n v U) (hr:RingAt W B m U') (hg:U.grownBy U' (some B)) (hB:B<W.heap.size) (hQ:W.heap.size+1+1<Q):OfS W B sky px py Q m v U' :=
 ⟨hr,h.q.grown hg (by simp;omega),h.s.grown hg (by simp;omega),h.p.grown hg (by simp;omega),h.z.grown hg (by simp;omega)⟩
theorem OfS.set (h:OfS W B sky px py Q n v U) (hQ:W.heap.size+1+1<Q) (i:Nat) (x:Value):OfS W B sky px py Q n (v.setIfInBounds i x) (U.setCell ⟨Q,i,none⟩ x) :=
 ⟨h.r.set (by omega) i x,h.q.set i x,h.s.other (by omega) i x,h.p.other (by omega) i x,h.z.other (by omega) i x⟩
theorem OfS.put {v0 v1 v2 v3 v4 v5 v6 v7 v8 v9 v10:Value} (h:OfS W B sky px py Q n #[v0,v1,v2,v3,v4,v5,v6,v7,v8,v9,v10] U) (hQ:W.heap.size+1+1<Q) (a0 a1 a2 a3 a4 a5 a6 a7 a8 a9 a10:Value):OfS W B sky px py Q n #[a0,a1,a2,a3,a4,a5,a6,a7,a8,a9,a10]
 (((((((((((U.setCell ⟨Q,0,none⟩ a0).setCell ⟨Q,1,none⟩ a1).setCell ⟨Q,2,none⟩ a2).setCell ⟨Q,3,none⟩ a3).setCell ⟨Q,4,none⟩ a4).setCell ⟨Q,5,none⟩ a5).setCell ⟨Q,6,none⟩ a6).setCell ⟨Q,7,none⟩ a7).setCell ⟨Q,8,none⟩ a8).setCell ⟨Q,9,none⟩ a9).setCell ⟨Q,10,none⟩ a10):=by
 simpa using (((((((((((h.set hQ 0 a0).set hQ 1 a1).set hQ 2 a2).set hQ 3 a3).set hQ 4 a4).set hQ 5 a5).set hQ 6 a6).set hQ 7 a7).set hQ 8 a8).set hQ 9 a9).set hQ 10 a10)
theorem OfS.res (h:OfS W B sky px py Q n v U) (a0 a1 a2 a3 a4 a5 a6 a7 a8 a9 a10:Value) {m:Int} (hm:n≤m) {WF:World} (e:WF =
 (((((((((((U.setCell ⟨W.heap.size+1+1,0,none⟩ a0).setCell ⟨W.heap.size+1+1,1,none⟩ a1).setCell ⟨W.heap.size+1+1,2,none⟩ a2).setCell ⟨W.heap.size+1+1,3,none⟩ a3).setCell ⟨W.heap.size+1+1,4,none⟩ a4).setCell ⟨W.heap.size+1+1,5,none⟩ a5).setCell ⟨W.heap.size+1+1,6,none⟩ a6).setCell ⟨W.heap.size+1+1,7,none⟩ a7).setCell ⟨W.heap.size+1+1,8,none⟩ a8).setCell ⟨W.heap.size+1+1,9,none⟩ a9).setCell ⟨W.heap.size+1+1,10,none⟩ a10)) :
 RingAt W B m WF∧Box WF (W.heap.size+1+1) #[a0,a1,a2,a3,a4,a5,a6,a7,a8,a9,a10] 50:=by
 subst e
 refine ⟨(((((((((((h.r.set (by omega) 0 a0).set (by omega) 1 a1).set (by omega) 2 a2).set (by omega) 3 a3).set (by omega) 4 a4).set (by omega) 5 a5).set (by omega) 6 a6).set (by omega) 7 a7).set (by omega) 8 a8).set (by omega) 9 a9).set (by omega) 10 a10).mono hm,?_⟩
 simpa using (((((((((((h.z.set 0 a0).set 1 a1).set 2 a2).set 3 a3).set 4 a4).set 5 a5).set 6 a6).set 7 a7).set 8 a8).set 9 a9).set 10 a10)
theorem OfS.keeps {K:Nat→Prop} (h:OfS W B sky px py Q n v U) (hK:∀ b,K b→b≠B):Keeps K W U:=h.r.keepsK hK
end
set_option maxRecDepth 100000 in
set_option maxHeartbeats 16000000 in
theorem offerof_any {w:World} {sl:Value} (hN:Nums w sl) {B:Nat} (hB:w.heap.size≤B) {K:Nat→Prop} (hK:∀ b,K b→b≠B) {a sa ca:Option Addr} {n c sn sc cn cc:Nat} {s:SkyD} {tick px py:Int} (hs:skyE s=0) (hn1:0<sn) (hn2:0<cn) (k0:0≤tick∧tick≤1000000) (hp:(-32000000≤px∧px≤32000000) ∧ -32000000≤py∧py≤32000000)
 (t:Int) (W:World) (hu:Up w W) (hb:Box W B #[sl,.int .i64 t] 98) (hL:SkyL K W a n c sa sn sc ca cn cc s) (t0:0≤t) (t1:t+15≤100000) :
 Calls Tryz.prog 41 #[.pointer (some ⟨B,0,none⟩),.agg #[.slice a n c,.int .i64 s.home,.slice sa sn sc,.slice ca cn cc],.int .i64 tick,.agg #[.int .i64 (px),.int .i64 (py)]] W (RPost W B t 15 (ROffer s tick)):=by
 have KN:=hide (fun (m:Int) (m0:1≤m) (m1:m≤9223372036854775807) n V (hV:RingAt W B n V) (hn:n+1≤100000)=>(next_r hN hB m0 m1).at hu hb hB hV hn)
 have HR:=hide (RingAt.start (n:=t) hb t0 (by omega))
 have HW:=hide (fun (id:Int) V (hV:Keeps K W V)=>sWhere_any (hL.b.keeps hV) hL.h (hL.st.keeps hV) (hL.ca.keeps hV) id tick)
 have HSI:=hide (fun V m (hV:RingAt W B m V) (hm:m+8≤100000)=>sightof_at hN hB hK hs hn1 hn2 k0 hp hu hb hL hV hm)
 have N1:=hide (next_r hN hB (m:=2) (by omega) (by omega))
 have N2:=hide (next_r hN hB (m:=6) (by omega) (by omega))
 have N3:=hide (next_r hN hB (m:=3) (by omega) (by omega))
 have lB:=hb.lt
 have NS:=lB
 have HU:=hide (And.intro hu hb)
 have HKB:=hide hK
 have HS0:=hide hs
 generalize hhome:s.home=home at *
 clear hN hu hb hL hs hn1 hn2
 go_enter Tryz.func41,Tryz.ntmps41
 go_wp2_with fail
 go_at_call 79
 refine forgetC (fun V=>RingAt W B t V∧Box V W.heap.size #[.slice a n c,.int .i64 home,.slice sa sn sc,.slice ca cn cc] 29∧Box V (W.heap.size+1) #[.int .i64 (px),.int .i64 (py)] 48∧Box V (W.heap.size+1+1) #[.int .i64 0,.int .i64 0,.int .i64 0,.int .i64 0,.int .i64 0,.int .i64 0,.int .i64 0,.int .i64 0,.int .i64 0,.int .i64 0,.bool false] 50) ⟨((HR.out.alloc _).alloc _).alloc _,(by repeat (first|exact Box.mk rfl|(refine Box.mk ?_;simp;done)|apply Box.ext|apply Box.drew|apply Box.alloc|apply Box.two1|refine Box.other ?_ (by omega) _ _)),(by repeat (first|exact Box.mk rfl|(refine Box.mk ?_;simp;done)|apply Box.ext|apply Box.drew|apply Box.alloc|apply Box.two1|refine Box.other ?_ (by omega) _ _)),(by repeat (first|exact Box.mk rfl|(refine Box.mk ?_;simp;done)|apply Box.ext|apply Box.drew|apply Box.alloc|apply Box.two1|refine Box.other ?_ (by omega) _ _))⟩ ?_
 rintro V ⟨hR,bs,bp,bz⟩
 have lsz:W.heap.size+1+1<V.heap.size:=bz.lt
 refine (HSI.out _ _ hR (by omega)).mono ?_
 rintro _ V1 ⟨_,rfl,⟨ki,st,ct,d1,d2,er,lo,hi,hki,hst,hct,hd,her,hlo,hhi,rfl⟩,hR1,hg1⟩
 have bs1:=bs.grown hg1 (by simp;omega)
 have bp1:=bp.grown hg1 (by simp;omega)
 have bz1:=bz.grown hg1 (by simp;omega)
 have lsz1:W.heap.size+1+1<V1.heap.size:=bz1.lt
 have HV1:=hide (And.intro hR1 (And.intro bs1 (And.intro bp1 bz1)))
 clear hR bs bp bz hR1 hg1 bs1 bp1 bz1 lsz HSI HR
 go_wp2_with fail
 obtain ⟨T,hT⟩:∃ T,V1.heap.size=T:=⟨_,rfl⟩
 rw [hT]
 refine forgetW (fun V=>RingAt W B (t+8) V∧Box V W.heap.size #[.slice a n c,.int .i64 home,.slice sa sn sc,.slice ca cn cc] 29∧Box V (W.heap.size+1) #[.int .i64 (px),.int .i64 (py)] 48∧Box V (W.heap.size+1+1) #[.int .i64 0,.int .i64 0,.int .i64 0,.int .i64 0,.int .i64 0,.int .i64 0,.int .i64 0,.int .i64 0,.int .i64 0,.int .i64 0,.bool false] 50∧Box V T #[.int .i64 (ki),.int .i64 (st),.int .i64 (ct),.int .i64 (tick),.int .i64 (d1),.int .i64 (d2),.int .i64 (er),.int .i64 (lo),.int .i64 (hi)] 155) ⟨HV1.out.1.alloc _,HV1.out.2.1.alloc _,HV1.out.2.2.1.alloc _,HV1.out.2.2.2.alloc _,by rw [← hT];exact (by repeat (first|exact Box.mk rfl|(refine Box.mk ?_;simp;done)|apply Box.ext|apply Box.drew|apply Box.alloc|apply Box.two1|refine Box.other ?_ (by omega) _ _))⟩ ?_
 rintro V2 ⟨hR2,bs,bp,bz,bt⟩
 have lT:W.heap.size+1+1<T:=by omega
 clear hT lsz1 HV1
 obtain ⟨t2,t20,t21,hb2⟩:=hR2.box HU.out.2
 have hu2:=hR2.up HU.out.1 hB
 have lV2:B<V2.heap.size:=hb2.lt
 have HV:=hide (And.intro hu2 (And.intro hb2 (And.intro hR2 (And.intro bs (And.intro bp (And.intro bz bt))))))
 have hTB:T≠B:=by omega
 have c1:=bt.cell 1 rfl
 have c2:=bt.cell 2 rfl
 have c6:=bt.cell 6 rfl
 have lt:=bt.lt
 clear hR2 bs bp bz bt hb2 hu2
 refine wp_region_float (al:=[(17,10,#[.int .i64 0,.int .i64 0,.int .i64 0,.int .i64 0,.int .i64 0,.int .i64 0,.int .i64 0,.int .i64 0,.int .i64 0,.int .i64 0,.bool false],50)]) (mv:=fun k=>k==1 || k==12 || k==14) [18] [0,3,4,5,6,7,8,9,10,11,13,1,2,12,14,15,16] (by kernel_rfl) (by kernel_rfl) (makes1 ⟨_,rfl,rfl,fun _=>rfl,fun _ _=>by simp [go_sem]⟩) (cls_ring _ B (t2+0)) (ringAt_drew (sl:=sl) (t:=t2) (T:=98) HV.out.2.1 t20 (by omega)) (Nat.le_refl _) ?_
 simp only [withOps,List.filterMap_cons,List.filterMap_nil,List.getElem?_toArray,List.getElem?_cons_zero,List.getElem?_cons_succ,Option.map_some]
 (repeat (first | (apply walkF_pure (base:=ringBase _ _) rfl rfl rfl (by kernel_rfl);· (rintro ⟨tx,px⟩ K hK;unfold ringBase;dsimp only;go_big_quiet_op;first | exact hK | (apply Exists.intro;refine ⟨fun _=>?_,?_⟩;(· (fail));exact hK))) | (apply walkF_skip rfl;simp only [Act.put,List.setIfInBounds_toArray,List.set_cons_zero,List.set_cons_succ])))
 refine walkF_call _ _ (ring_call N1.out HV.out.1 HV.out.2.1 hB (by omega) (by omega)) (fun _ _=>cls_ring _ _ _) (by kernel_rfl) (by kernel_rfl) (fun _=>by simp [go_sem]) ?_
 rintro _ ⟨k,k00,k01,rfl⟩
 simp only [Act.put,List.setIfInBounds_toArray,List.set_cons_zero,List.set_cons_succ]
 (repeat (first | (apply walkF_pure (base:=ringBase _ _) rfl rfl rfl (by kernel_rfl);· (rintro ⟨tx,px⟩ K hK;unfold ringBase;dsimp only;go_big_quiet_op;first | exact hK | (apply Exists.intro;refine ⟨fun _=>?_,?_⟩;(· (fail));exact hK))) | (apply walkF_skip rfl;simp only [Act.put,List.setIfInBounds_toArray,List.set_cons_zero,List.set_cons_succ])))
 refine walkF_call _ _ (ring_call N2.out HV.out.1 HV.out.2.1 hB (by omega) (by omega)) (fun _ _=>cls_ring _ _ _) (by kernel_rfl) (by kernel_rfl) (fun _=>by simp [go_sem]) ?_
 rintro _ ⟨co,co0,co1,rfl⟩
 simp only [Act.put,List.setIfInBounds_toArray,List.set_cons_zero,List.set_cons_succ]
 (repeat (first | (apply walkF_pure (base:=ringBase _ _) rfl rfl rfl (by kernel_rfl);· (rintro ⟨tx,px⟩ K hK;unfold ringBase;dsimp only;go_big_quiet_op;first | exact hK | (apply Exists.intro;refine ⟨fun _=>?_,?_⟩;(· (fail));exact hK))) | (apply walkF_skip rfl;simp only [Act.put,List.setIfInBounds_toArray,List.set_cons_zero,List.set_cons_succ])))
 refine walkF_call _ _ (ring_call N3.out HV.out.1 HV.out.2.1 hB (by omega) (by omega)) (fun _ _=>cls_ring _ _ _) (by kernel_rfl) (by kernel_rfl) (fun _=>by simp [go_sem]) ?_
 rintro _ ⟨zz,zz0,zz1,rfl⟩
 simp only [Act.put,List.setIfInBounds_toArray,List.set_cons_zero,List.set_cons_succ]
 (repeat (first | (apply walkF_pure (base:=ringBase _ _) rfl rfl rfl (by kernel_rfl);· (rintro ⟨tx,px⟩ K hK;unfold ringBase;dsimp only;go_big_quiet_op;first | exact hK | (apply Exists.intro;refine ⟨fun _=>?_,?_⟩;(· (fail));exact hK))) | (apply walkF_skip rfl;simp only [Act.put,List.setIfInBounds_toArray,List.set_cons_zero,List.set_cons_succ])))
 refine walkF_nil (end1 (fun Q U hq hU bq=>?_))
 simp only [Act.put,List.setIfInBounds_toArray,List.set_cons_zero,List.set_cons_succ]
 (try simp only [List.filterMap_cons,List.filterMap_nil,List.getElem?_toArray,List.getElem?_cons_zero,List.getElem?_cons_succ])
 have hU3:RingAt V2 B (t2+3) U:=by simpa [Int.add_assoc] using hU
 have HB:=hide (show OfS W B #[.slice a n c,.int .i64 home,.slice sa sn sc,.slice ca cn cc] px py Q (t+8+3) #[.int .i64 0,.int .i64 0,.int .i64 0,.int .i64 0,.int .i64 0,.int .i64 0,.int .i64 0,.int .i64 0,.int .i64 0,.int .i64 0,.bool false] U from ⟨(HV.out.2.2.1.trans hU3 lB).mono (by omega),bq,hU3.other HV.out.2.2.2.1 (by omega),hU3.other HV.out.2.2.2.2.1 (by omega),hU3.other HV.out.2.2.2.2.2.1 (by omega)⟩)
 have ct1:=(hU3.other HV.out.2.2.2.2.2.2 hTB).cell 1 rfl
 have lct:=(hU3.other HV.out.2.2.2.2.2.2 hTB).lt
 have NQ:W.heap.size+1+1<Q:=by omega
 have nTQ:T≠Q:=by omega
 obtain ⟨wo1,wo2,hwo⟩:=(where_ok (t:=tick) HS0.out (by unfold withinB;simp;omega) hst).choose_spec.choose_spec.2.2.2.2.2
 have HW1:=hide (fun V hV=>HW.out st V hV)
 obtain ⟨ox,hox⟩:∃ x,(whereV s st tick).1=x:=⟨_,rfl⟩
 obtain ⟨oy,hoy⟩:∃ x,(whereV s st tick).2.1=x:=⟨_,rfl⟩
 obtain ⟨oz,hoz⟩:∃ x,(whereV s st tick).2.2=x:=⟨_,rfl⟩
 rw [hox] at wo1 HW1
 rw [hoy] at wo2 hwo HW1
 rw [hoz] at HW1
 have HF:=hide (And.intro hst (And.intro hct (show 0≤er / 4∧er / 4≤500000 by omega)))
 clear hU hU3 bq c1 c2 c6 lt N1 N2 N3 HW HV hox hoy hoz hst hct her hd hlo hhi hki
 have q0:=HB.out.q.cell 0 rfl
 have q1:=HB.out.q.cell 1 rfl
 have q2:=HB.out.q.cell 2 rfl
 have q3:=HB.out.q.cell 3 rfl
 have q4:=HB.out.q.cell 4 rfl
 have q5:=HB.out.q.cell 5 rfl
 have q6:=HB.out.q.cell 6 rfl
 have q7:=HB.out.q.cell 7 rfl
 have q8:=HB.out.q.cell 8 rfl
 have q9:=HB.out.q.cell 9 rfl
 have q10:=HB.out.q.cell 10 rfl
 have lq:=HB.out.q.lt
 have fq0:=HB.out.q.frozen 0
 have fq1:=HB.out.q.frozen 1
 have fq2:=HB.out.q.frozen 2
 have fq3:=HB.out.q.frozen 3
 have fq4:=HB.out.q.frozen 4
 have fq5:=HB.out.q.frozen 5
 have fq6:=HB.out.q.frozen 6
 have fq7:=HB.out.q.frozen 7
 have fq8:=HB.out.q.frozen 8
 have fq9:=HB.out.q.frozen 9
 have fq10:=HB.out.q.frozen 10
 have s0:=HB.out.s.cell 0 rfl
 have s1:=HB.out.s.cell 1 rfl
 have s2:=HB.out.s.cell 2 rfl
 have s3:=HB.out.s.cell 3 rfl
 have ls:=HB.out.s.lt
 go_wp2_with fail
 go_at_call 80
 refine forgetC (OfS W B #[.slice a n c,.int .i64 home,.slice sa sn sc,.slice ca cn cc] px py Q  (t+8+3) #[.int .i64 (1+k),.int .i64 st,.int .i64 ct,.int .i64 tick,.int .i64 0,.int .i64 0,.int .i64 (er / 4),.int .i64 0,.int .i64 0,.int .i64 co,.bool (zz==0)]) (by (repeat (first|with_reducible apply OfS.ext|with_reducible apply OfS.alloc|with_reducible apply OfS.drew));exact HB.out.put NQ _ _ _ _ _ _ _ _ _ _ _) ?_
 intro U1 hU1
 have H1:=hide hU1
 clear q0 q1 q2 q3 q4 q5 q6 q7 q8 q9 q10 lq fq0 fq1 fq2 fq3 fq4 fq5 fq6 fq7 fq8 fq9 fq10 s0 s1 s2 s3 ls
 clear hU1 ct1 lct nTQ
 refine (HW1.out _ (H1.out.keeps HKB.out)).mono ?_
 intro e1
 have p0:=H1.out.p.cell 0 rfl
 have p1:=H1.out.p.cell 1 rfl
 have lp:=H1.out.p.lt
 go_wp2_with fail
 ((first | with_reducible refine wp_region_ext2 (by kernel_rfl) (by kernel_rfl) ?_ | refine wp_region_ext (by kernel_rfl) (by kernel_rfl) ?_);(repeat (go_big_quiet_step (fail)));refine wpQuiet_nil ?_;intro _ hw';obtain ⟨_,hw''⟩:=hw';subst hw'')
 go_wp2_with fail
 go_at_call 34
 refine forgetC (OfS W B #[.slice a n c,.int .i64 home,.slice sa sn sc,.slice ca cn cc] px py Q  (t+8+3) #[.int .i64 (1+k),.int .i64 st,.int .i64 ct,.int .i64 tick,.int .i64 0,.int .i64 0,.int .i64 (er / 4),.int .i64 0,.int .i64 0,.int .i64 co,.bool (zz==0)]) (by (repeat (first|with_reducible apply OfS.ext|with_reducible apply OfS.alloc|with_reducible apply OfS.drew));exact H1.out) ?_
 intro U2 hU2
 have H2:=hide hU2
 clear p0 p1 lp
 clear hU2
 refine (KN.out 400 (by omega) (by omega) (t+8+3) _ H2.out.r (by omega)).mono ?_
 rintro _ U3 ⟨_,rfl,⟨f,f0,f1,rfl⟩,hRU3,hgU3⟩
 have H3:=hide (H2.out.grown hRU3 hgU3 NS NQ)
 clear hRU3 hgU3
 have q0:=H3.out.q.cell 0 rfl
 have q1:=H3.out.q.cell 1 rfl
 have q2:=H3.out.q.cell 2 rfl
 have q3:=H3.out.q.cell 3 rfl
 have q4:=H3.out.q.cell 4 rfl
 have q5:=H3.out.q.cell 5 rfl
 have q6:=H3.out.q.cell 6 rfl
 have q7:=H3.out.q.cell 7 rfl
 have q8:=H3.out.q.cell 8 rfl
 have q9:=H3.out.q.cell 9 rfl
 have q10:=H3.out.q.cell 10 rfl
 have lq:=H3.out.q.lt
 have fq0:=H3.out.q.frozen 0
 have fq1:=H3.out.q.frozen 1
 have fq2:=H3.out.q.frozen 2
 have fq3:=H3.out.q.frozen 3
 have fq4:=H3.out.q.frozen 4
 have fq5:=H3.out.q.frozen 5
 have fq6:=H3.out.q.frozen 6
 have fq7:=H3.out.q.frozen 7
 have fq8:=H3.out.q.frozen 8
 have fq9:=H3.out.q.frozen 9
 have fq10:=H3.out.q.frozen 10
 go_wp2_with fail
 go_at_call 34
 obtain ⟨FA,hFA⟩:∃ FA,(max 1 (max (px - ox) (-(px - ox)))+max 1 (max (py - oy) (-(py - oy)))+f)=FA:=⟨_,rfl⟩
 rw [hFA]
 have FA0:1≤FA∧FA≤133300000:=by omega
 clear hFA
 refine forgetC (OfS W B #[.slice a n c,.int .i64 home,.slice sa sn sc,.slice ca cn cc] px py Q  (t+8+3+1) #[.int .i64 (1+k),.int .i64 st,.int .i64 ct,.int .i64 tick,.int .i64 0,.int .i64 0,.int .i64 (er / 4),.int .i64 FA,.int .i64 0,.int .i64 co,.bool (zz==0)]) (by (repeat (first|with_reducible apply OfS.ext|with_reducible apply OfS.alloc|with_reducible apply OfS.drew));exact (H3.out.set NQ 7 (.int .i64 FA))) ?_
 intro U4 hU4
 have H4:=hide hU4
 clear q0 q1 q2 q3 q4 q5 q6 q7 q8 q9 q10 lq fq0 fq1 fq2 fq3 fq4 fq5 fq6 fq7 fq8 fq9 fq10
 clear hU4
 refine (KN.out 6 (by omega) (by omega) (t+8+3+1) _ H4.out.r (by omega)).mono ?_
 rintro _ U5 ⟨_,rfl,⟨h6,h60,h61,rfl⟩,hRU5,hgU5⟩
 have H5:=hide (H4.out.grown hRU5 hgU5 NS NQ)
 clear hRU5 hgU5
 by_cases h60:h6=0
 · subst h60
   have q0:=H5.out.q.cell 0 rfl
   have q1:=H5.out.q.cell 1 rfl
   have q2:=H5.out.q.cell 2 rfl
   have q3:=H5.out.q.cell 3 rfl
   have q4:=H5.out.q.cell 4 rfl
   have q5:=H5.out.q.cell 5 rfl
   have q6:=H5.out.q.cell 6 rfl
   have q7:=H5.out.q.cell 7 rfl
   have q8:=H5.out.q.cell 8 rfl
   have q9:=H5.out.q.cell 9 rfl
   have q10:=H5.out.q.cell 10 rfl
   have lq:=H5.out.q.lt
   have fq0:=H5.out.q.frozen 0
   have fq1:=H5.out.q.frozen 1
   have fq2:=H5.out.q.frozen 2
   have fq3:=H5.out.q.frozen 3
   have fq4:=H5.out.q.frozen 4
   have fq5:=H5.out.q.frozen 5
   have fq6:=H5.out.q.frozen 6
   have fq7:=H5.out.q.frozen 7
   have fq8:=H5.out.q.frozen 8
   have fq9:=H5.out.q.frozen 9
   have fq10:=H5.out.q.frozen 10
   have FH:1≤1+FA / 2∧1+FA / 2≤133300000:=by omega
   go_wp2_with fail
   go_loopw [13,14] (fun s13 s14 wr=>∃ dx dy:Int,s13=.int .i64 dx∧s14=.int .i64 dy∧((-70000000≤dx∧dx≤70000000) ∧ -70000000≤dy∧dy≤70000000)∧Hid (OfS W B #[.slice a n c,.int .i64 home,.slice sa sn sc,.slice ca cn cc] px py Q  (t+8+3+1+1) #[.int .i64 (1+k),.int .i64 st,.int .i64 ct,.int .i64 tick,.int .i64 0,.int .i64 0,.int .i64 (er / 4),.int .i64 (1+FA / 2),.int .i64 0,.int .i64 co,.bool (zz==0)] wr)) (fun s13 s14 _=>(intOf s13).natAbs+(intOf s14).natAbs)
   case atStart=>exact ⟨_,_,rfl,rfl,by omega,hide (H5.out.set NQ 7 (.int .i64 (1+FA / 2)))⟩
   case round =>
    obtain ⟨dx,dy,rfl,rfl,hb,HI⟩:=hrel
    clear q0 q1 q2 q3 q4 q5 q6 q7 q8 q9 q10 lq fq0 fq1 fq2 fq3 fq4 fq5 fq6 fq7 fq8 fq9 fq10
    by_cases hh:halfOut dx dy
    · have hm:=half_less hh
      have g1:=half_bd hb.1 (by omega)
      have g2:=half_bd hb.2 (by omega)
      have hh':4096<dx∨(¬ 4096<dx∧4096 < -dx)∨(¬ 4096<dx∧¬ 4096 < -dx∧4096<dy)∨(¬ 4096<dx∧¬ 4096 < -dx∧¬ 4096<dy∧4096 < -dy):=by unfold halfOut at hh;omega
      clear hh
      rcases hh' with h | ⟨h,h'⟩ | ⟨h,h',h''⟩ | ⟨h,h',h'',h3⟩
      all_goals
       go_wp2_with fail
       go_roundw
       case rel=>exact ⟨_,_,rfl,rfl,by omega,HI⟩
       case measure=>exact hm
    · have c1:¬ 4096<dx:=by unfold halfOut at hh;omega
      have c2:¬ 4096 < -dx:=by unfold halfOut at hh;omega
      have c3:¬ 4096<dy:=by unfold halfOut at hh;omega
      have c4:¬ 4096 < -dy:=by unfold halfOut at hh;omega
      clear hh
      have hz:(dx=0∧dy=0)∨¬ dx=0∨(dx=0∧¬ dy=0):=by omega
      rcases hz with ⟨rfl,rfl⟩ | hz | ⟨rfl,hz⟩
      · skip
        go_wp2_with fail
        go_at_call 34
        refine forgetC (OfS W B #[.slice a n c,.int .i64 home,.slice sa sn sc,.slice ca cn cc] px py Q  (t+8+3+1+1) #[.int .i64 (1+k),.int .i64 st,.int .i64 ct,.int .i64 tick,.int .i64 0,.int .i64 0,.int .i64 (er / 4),.int .i64 (1+FA / 2),.int .i64 0,.int .i64 co,.bool (zz==0)]) (by (repeat (first|with_reducible apply OfS.ext|with_reducible apply OfS.alloc|with_reducible apply OfS.drew));exact HI.out) ?_
        intro U6 hU6
        have H6:=hide hU6
        clear hU6
        refine (KN.out 300000 (by omega) (by omega) (t+8+3+1+1) _ H6.out.r (by omega)).mono ?_
        rintro _ U7 ⟨_,rfl,⟨wi,wi0,wi1,rfl⟩,hRU7,hgU7⟩
        have H7:=hide (H6.out.grown hRU7 hgU7 NS NQ)
        clear hRU7 hgU7
        by_cases hk2:k=1
        · subst hk2
          have q0:=H7.out.q.cell 0 rfl
          have q1:=H7.out.q.cell 1 rfl
          have q2:=H7.out.q.cell 2 rfl
          have q3:=H7.out.q.cell 3 rfl
          have q4:=H7.out.q.cell 4 rfl
          have q5:=H7.out.q.cell 5 rfl
          have q6:=H7.out.q.cell 6 rfl
          have q7:=H7.out.q.cell 7 rfl
          have q8:=H7.out.q.cell 8 rfl
          have q9:=H7.out.q.cell 9 rfl
          have q10:=H7.out.q.cell 10 rfl
          have lq:=H7.out.q.lt
          have fq0:=H7.out.q.frozen 0
          have fq1:=H7.out.q.frozen 1
          have fq2:=H7.out.q.frozen 2
          have fq3:=H7.out.q.frozen 3
          have fq4:=H7.out.q.frozen 4
          have fq5:=H7.out.q.frozen 5
          have fq6:=H7.out.q.frozen 6
          have fq7:=H7.out.q.frozen 7
          have fq8:=H7.out.q.frozen 8
          have fq9:=H7.out.q.frozen 9
          have fq10:=H7.out.q.frozen 10
          go_wp2_with fail
          go_at_call 34
          refine forgetC (OfS W B #[.slice a n c,.int .i64 home,.slice sa sn sc,.slice ca cn cc] px py Q  (t+8+3+1+1+1) #[.int .i64 2,.int .i64 st,.int .i64 ct,.int .i64 tick,.int .i64 1,.int .i64 0,.int .i64 (er / 4),.int .i64 (1+FA / 2),.int .i64 wi,.int .i64 co,.bool (zz==0)]) (by (repeat (first|with_reducible apply OfS.ext|with_reducible apply OfS.alloc|with_reducible apply OfS.drew));exact (((H7.out.set NQ 4 (.int .i64 1)).set NQ 5 (.int .i64 0)).set NQ 8 (.int .i64 wi))) ?_
          intro U8 hU8
          have H8:=hide hU8
          clear q0 q1 q2 q3 q4 q5 q6 q7 q8 q9 q10 lq fq0 fq1 fq2 fq3 fq4 fq5 fq6 fq7 fq8 fq9 fq10
          clear hU8
          refine (KN.out 60 (by omega) (by omega) (t+8+3+1+1+1) _ H8.out.r (by omega)).mono ?_
          rintro _ U9 ⟨_,rfl,⟨e2,e20,e21,rfl⟩,hRU9,hgU9⟩
          have H9:=hide (H8.out.grown hRU9 hgU9 NS NQ)
          clear hRU9 hgU9
          have q0:=H9.out.q.cell 0 rfl
          have q1:=H9.out.q.cell 1 rfl
          have q2:=H9.out.q.cell 2 rfl
          have q3:=H9.out.q.cell 3 rfl
          have q4:=H9.out.q.cell 4 rfl
          have q5:=H9.out.q.cell 5 rfl
          have q6:=H9.out.q.cell 6 rfl
          have q7:=H9.out.q.cell 7 rfl
          have q8:=H9.out.q.cell 8 rfl
          have q9:=H9.out.q.cell 9 rfl
          have q10:=H9.out.q.cell 10 rfl
          have lq:=H9.out.q.lt
          have fq0:=H9.out.q.frozen 0
          have fq1:=H9.out.q.frozen 1
          have fq2:=H9.out.q.frozen 2
          have fq3:=H9.out.q.frozen 3
          have fq4:=H9.out.q.frozen 4
          have fq5:=H9.out.q.frozen 5
          have fq6:=H9.out.q.frozen 6
          have fq7:=H9.out.q.frozen 7
          have fq8:=H9.out.q.frozen 8
          have fq9:=H9.out.q.frozen 9
          have fq10:=H9.out.q.frozen 10
          have z0:=H9.out.z.cell 0 rfl
          have z1:=H9.out.z.cell 1 rfl
          have z2:=H9.out.z.cell 2 rfl
          have z3:=H9.out.z.cell 3 rfl
          have z4:=H9.out.z.cell 4 rfl
          have z5:=H9.out.z.cell 5 rfl
          have z6:=H9.out.z.cell 6 rfl
          have z7:=H9.out.z.cell 7 rfl
          have z8:=H9.out.z.cell 8 rfl
          have z9:=H9.out.z.cell 9 rfl
          have z10:=H9.out.z.cell 10 rfl
          have fz0:=H9.out.z.frozen 0
          have fz1:=H9.out.z.frozen 1
          have fz2:=H9.out.z.frozen 2
          have fz3:=H9.out.z.frozen 3
          have fz4:=H9.out.z.frozen 4
          have fz5:=H9.out.z.frozen 5
          have fz6:=H9.out.z.frozen 6
          have fz7:=H9.out.z.frozen 7
          have fz8:=H9.out.z.frozen 8
          have fz9:=H9.out.z.frozen 9
          have fz10:=H9.out.z.frozen 10
          have lz:=H9.out.z.lt
          go_wp2_with fail
          refine forgetW (fun WF=>RingAt W B (t+15) WF∧Box WF (W.heap.size+1+1) #[.int .i64 2,.int .i64 st,.int .i64 ct,.int .i64 tick,.int .i64 1,.int .i64 0,.int .i64 e2,.int .i64 (1+FA / 2),.int .i64 wi,.int .i64 co,.bool (zz==0)] 50) (OfS.res (H9.out.set NQ 6 (.int .i64 e2)) _ _ _ _ _ _ _ _ _ _ _ (by omega) rfl) ?_
          clear q0 q1 q2 q3 q4 q5 q6 q7 q8 q9 q10 lq fq0 fq1 fq2 fq3 fq4 fq5 fq6 fq7 fq8 fq9 fq10 z0 z1 z2 z3 z4 z5 z6 z7 z8 z9 z10 fz0 fz1 fz2 fz3 fz4 fz5 fz6 fz7 fz8 fz9 fz10 lz
          rintro WF ⟨hRF,hbF⟩
          have z0:=hbF.cell 0 rfl
          have z1:=hbF.cell 1 rfl
          have z2:=hbF.cell 2 rfl
          have z3:=hbF.cell 3 rfl
          have z4:=hbF.cell 4 rfl
          have z5:=hbF.cell 5 rfl
          have z6:=hbF.cell 6 rfl
          have z7:=hbF.cell 7 rfl
          have z8:=hbF.cell 8 rfl
          have z9:=hbF.cell 9 rfl
          have z10:=hbF.cell 10 rfl
          exact bodyPost_ret (v:=.agg #[.int .i64 2,.int .i64 st,.int .i64 ct,.int .i64 tick,.int .i64 1,.int .i64 0,.int .i64 e2,.int .i64 (1+FA / 2),.int .i64 wi,.int .i64 co,.bool (zz==0)]) (by simp [results,Tryz.results41,go_sem,z0,z1,z2,z3,z4,z5,z6,z7,z8,z9,z10]) rfl (ring_at_out hRF (by omega) ⟨⟨_,_,_,_,_,_,_,_,_,_,_⟩,offE_mk HS0.out (by omega) k0 HF.out.1 HF.out.2.1 ⟨⟨by omega,by omega⟩,⟨by omega,by omega⟩,by omega⟩ ⟨by omega,by omega⟩ ⟨FH.1,by omega⟩ ⟨by omega,by omega⟩ ⟨by omega,by omega⟩,rfl,FH.2,rfl⟩)
        · have hk3:¬ 1+k=2:=by omega
          have q0:=H7.out.q.cell 0 rfl
          have q1:=H7.out.q.cell 1 rfl
          have q2:=H7.out.q.cell 2 rfl
          have q3:=H7.out.q.cell 3 rfl
          have q4:=H7.out.q.cell 4 rfl
          have q5:=H7.out.q.cell 5 rfl
          have q6:=H7.out.q.cell 6 rfl
          have q7:=H7.out.q.cell 7 rfl
          have q8:=H7.out.q.cell 8 rfl
          have q9:=H7.out.q.cell 9 rfl
          have q10:=H7.out.q.cell 10 rfl
          have lq:=H7.out.q.lt
          have fq0:=H7.out.q.frozen 0
          have fq1:=H7.out.q.frozen 1
          have fq2:=H7.out.q.frozen 2
          have fq3:=H7.out.q.frozen 3
          have fq4:=H7.out.q.frozen 4
          have fq5:=H7.out.q.frozen 5
          have fq6:=H7.out.q.frozen 6
          have fq7:=H7.out.q.frozen 7
          have fq8:=H7.out.q.frozen 8
          have fq9:=H7.out.q.frozen 9
          have fq10:=H7.out.q.frozen 10
          have z0:=H7.out.z.cell 0 rfl
          have z1:=H7.out.z.cell 1 rfl
          have z2:=H7.out.z.cell 2 rfl
          have z3:=H7.out.z.cell 3 rfl
          have z4:=H7.out.z.cell 4 rfl
          have z5:=H7.out.z.cell 5 rfl
          have z6:=H7.out.z.cell 6 rfl
          have z7:=H7.out.z.cell 7 rfl
          have z8:=H7.out.z.cell 8 rfl
          have z9:=H7.out.z.cell 9 rfl
          have z10:=H7.out.z.cell 10 rfl
          have fz0:=H7.out.z.frozen 0
          have fz1:=H7.out.z.frozen 1
          have fz2:=H7.out.z.frozen 2
          have fz3:=H7.out.z.frozen 3
          have fz4:=H7.out.z.frozen 4
          have fz5:=H7.out.z.frozen 5
          have fz6:=H7.out.z.frozen 6
          have fz7:=H7.out.z.frozen 7
          have fz8:=H7.out.z.frozen 8
          have fz9:=H7.out.z.frozen 9
          have fz10:=H7.out.z.frozen 10
          have lz:=H7.out.z.lt
          go_wp2_with fail
          refine forgetW (fun WF=>RingAt W B (t+15) WF∧Box WF (W.heap.size+1+1) #[.int .i64 (1+k),.int .i64 st,.int .i64 ct,.int .i64 tick,.int .i64 1,.int .i64 0,.int .i64 (er / 4),.int .i64 (1+FA / 2),.int .i64 wi,.int .i64 co,.bool (zz==0)] 50) (OfS.res (((H7.out.set NQ 4 (.int .i64 1)).set NQ 5 (.int .i64 0)).set NQ 8 (.int .i64 wi)) _ _ _ _ _ _ _ _ _ _ _ (by omega) rfl) ?_
          clear q0 q1 q2 q3 q4 q5 q6 q7 q8 q9 q10 lq fq0 fq1 fq2 fq3 fq4 fq5 fq6 fq7 fq8 fq9 fq10 z0 z1 z2 z3 z4 z5 z6 z7 z8 z9 z10 fz0 fz1 fz2 fz3 fz4 fz5 fz6 fz7 fz8 fz9 fz10 lz
          rintro WF ⟨hRF,hbF⟩
          have z0:=hbF.cell 0 rfl
          have z1:=hbF.cell 1 rfl
          have z2:=hbF.cell 2 rfl
          have z3:=hbF.cell 3 rfl
          have z4:=hbF.cell 4 rfl
          have z5:=hbF.cell 5 rfl
          have z6:=hbF.cell 6 rfl
          have z7:=hbF.cell 7 rfl
          have z8:=hbF.cell 8 rfl
          have z9:=hbF.cell 9 rfl
          have z10:=hbF.cell 10 rfl
          exact bodyPost_ret (v:=.agg #[.int .i64 (1+k),.int .i64 st,.int .i64 ct,.int .i64 tick,.int .i64 1,.int .i64 0,.int .i64 (er / 4),.int .i64 (1+FA / 2),.int .i64 wi,.int .i64 co,.bool (zz==0)]) (by simp [results,Tryz.results41,go_sem,z0,z1,z2,z3,z4,z5,z6,z7,z8,z9,z10]) rfl (ring_at_out hRF (by omega) ⟨⟨_,_,_,_,_,_,_,_,_,_,_⟩,offE_mk HS0.out (by omega) k0 HF.out.1 HF.out.2.1 ⟨⟨by omega,by omega⟩,⟨by omega,by omega⟩,by omega⟩ HF.out.2.2 ⟨FH.1,by omega⟩ ⟨by omega,by omega⟩ ⟨by omega,by omega⟩,rfl,FH.2,rfl⟩)
      · skip
        go_wp2_with fail
        go_at_call 34
        refine forgetC (OfS W B #[.slice a n c,.int .i64 home,.slice sa sn sc,.slice ca cn cc] px py Q  (t+8+3+1+1) #[.int .i64 (1+k),.int .i64 st,.int .i64 ct,.int .i64 tick,.int .i64 0,.int .i64 0,.int .i64 (er / 4),.int .i64 (1+FA / 2),.int .i64 0,.int .i64 co,.bool (zz==0)]) (by (repeat (first|with_reducible apply OfS.ext|with_reducible apply OfS.alloc|with_reducible apply OfS.drew));exact HI.out) ?_
        intro U6 hU6
        have H6:=hide hU6
        clear hU6
        refine (KN.out 300000 (by omega) (by omega) (t+8+3+1+1) _ H6.out.r (by omega)).mono ?_
        rintro _ U7 ⟨_,rfl,⟨wi,wi0,wi1,rfl⟩,hRU7,hgU7⟩
        have H7:=hide (H6.out.grown hRU7 hgU7 NS NQ)
        clear hRU7 hgU7
        by_cases hk2:k=1
        · subst hk2
          have q0:=H7.out.q.cell 0 rfl
          have q1:=H7.out.q.cell 1 rfl
          have q2:=H7.out.q.cell 2 rfl
          have q3:=H7.out.q.cell 3 rfl
          have q4:=H7.out.q.cell 4 rfl
          have q5:=H7.out.q.cell 5 rfl
          have q6:=H7.out.q.cell 6 rfl
          have q7:=H7.out.q.cell 7 rfl
          have q8:=H7.out.q.cell 8 rfl
          have q9:=H7.out.q.cell 9 rfl
          have q10:=H7.out.q.cell 10 rfl
          have lq:=H7.out.q.lt
          have fq0:=H7.out.q.frozen 0
          have fq1:=H7.out.q.frozen 1
          have fq2:=H7.out.q.frozen 2
          have fq3:=H7.out.q.frozen 3
          have fq4:=H7.out.q.frozen 4
          have fq5:=H7.out.q.frozen 5
          have fq6:=H7.out.q.frozen 6
          have fq7:=H7.out.q.frozen 7
          have fq8:=H7.out.q.frozen 8
          have fq9:=H7.out.q.frozen 9
          have fq10:=H7.out.q.frozen 10
          go_wp2_with fail
          go_at_call 34
          refine forgetC (OfS W B #[.slice a n c,.int .i64 home,.slice sa sn sc,.slice ca cn cc] px py Q  (t+8+3+1+1+1) #[.int .i64 2,.int .i64 st,.int .i64 ct,.int .i64 tick,.int .i64 dx,.int .i64 dy,.int .i64 (er / 4),.int .i64 (1+FA / 2),.int .i64 wi,.int .i64 co,.bool (zz==0)]) (by (repeat (first|with_reducible apply OfS.ext|with_reducible apply OfS.alloc|with_reducible apply OfS.drew));exact (((H7.out.set NQ 4 (.int .i64 dx)).set NQ 5 (.int .i64 dy)).set NQ 8 (.int .i64 wi))) ?_
          intro U8 hU8
          have H8:=hide hU8
          clear q0 q1 q2 q3 q4 q5 q6 q7 q8 q9 q10 lq fq0 fq1 fq2 fq3 fq4 fq5 fq6 fq7 fq8 fq9 fq10
          clear hU8
          refine (KN.out 60 (by omega) (by omega) (t+8+3+1+1+1) _ H8.out.r (by omega)).mono ?_
          rintro _ U9 ⟨_,rfl,⟨e2,e20,e21,rfl⟩,hRU9,hgU9⟩
          have H9:=hide (H8.out.grown hRU9 hgU9 NS NQ)
          clear hRU9 hgU9
          have q0:=H9.out.q.cell 0 rfl
          have q1:=H9.out.q.cell 1 rfl
          have q2:=H9.out.q.cell 2 rfl
          have q3:=H9.out.q.cell 3 rfl
          have q4:=H9.out.q.cell 4 rfl
          have q5:=H9.out.q.cell 5 rfl
          have q6:=H9.out.q.cell 6 rfl
          have q7:=H9.out.q.cell 7 rfl
          have q8:=H9.out.q.cell 8 rfl
          have q9:=H9.out.q.cell 9 rfl
          have q10:=H9.out.q.cell 10 rfl
          have lq:=H9.out.q.lt
          have fq0:=H9.out.q.frozen 0
          have fq1:=H9.out.q.frozen 1
          have fq2:=H9.out.q.frozen 2
          have fq3:=H9.out.q.frozen 3
          have fq4:=H9.out.q.frozen 4
          have fq5:=H9.out.q.frozen 5
          have fq6:=H9.out.q.frozen 6
          have fq7:=H9.out.q.frozen 7
          have fq8:=H9.out.q.frozen 8
          have fq9:=H9.out.q.frozen 9
          have fq10:=H9.out.q.frozen 10
          have z0:=H9.out.z.cell 0 rfl
          have z1:=H9.out.z.cell 1 rfl
          have z2:=H9.out.z.cell 2 rfl
          have z3:=H9.out.z.cell 3 rfl
          have z4:=H9.out.z.cell 4 rfl
          have z5:=H9.out.z.cell 5 rfl
          have z6:=H9.out.z.cell 6 rfl
          have z7:=H9.out.z.cell 7 rfl
          have z8:=H9.out.z.cell 8 rfl
          have z9:=H9.out.z.cell 9 rfl
          have z10:=H9.out.z.cell 10 rfl
          have fz0:=H9.out.z.frozen 0
          have fz1:=H9.out.z.frozen 1
          have fz2:=H9.out.z.frozen 2
          have fz3:=H9.out.z.frozen 3
          have fz4:=H9.out.z.frozen 4
          have fz5:=H9.out.z.frozen 5
          have fz6:=H9.out.z.frozen 6
          have fz7:=H9.out.z.frozen 7
          have fz8:=H9.out.z.frozen 8
          have fz9:=H9.out.z.frozen 9
          have fz10:=H9.out.z.frozen 10
          have lz:=H9.out.z.lt
          go_wp2_with fail
          refine forgetW (fun WF=>RingAt W B (t+15) WF∧Box WF (W.heap.size+1+1) #[.int .i64 2,.int .i64 st,.int .i64 ct,.int .i64 tick,.int .i64 dx,.int .i64 dy,.int .i64 e2,.int .i64 (1+FA / 2),.int .i64 wi,.int .i64 co,.bool (zz==0)] 50) (OfS.res (H9.out.set NQ 6 (.int .i64 e2)) _ _ _ _ _ _ _ _ _ _ _ (by omega) rfl) ?_
          clear q0 q1 q2 q3 q4 q5 q6 q7 q8 q9 q10 lq fq0 fq1 fq2 fq3 fq4 fq5 fq6 fq7 fq8 fq9 fq10 z0 z1 z2 z3 z4 z5 z6 z7 z8 z9 z10 fz0 fz1 fz2 fz3 fz4 fz5 fz6 fz7 fz8 fz9 fz10 lz
          rintro WF ⟨hRF,hbF⟩
          have z0:=hbF.cell 0 rfl
          have z1:=hbF.cell 1 rfl
          have z2:=hbF.cell 2 rfl
          have z3:=hbF.cell 3 rfl
          have z4:=hbF.cell 4 rfl
          have z5:=hbF.cell 5 rfl
          have z6:=hbF.cell 6 rfl
          have z7:=hbF.cell 7 rfl
          have z8:=hbF.cell 8 rfl
          have z9:=hbF.cell 9 rfl
          have z10:=hbF.cell 10 rfl
          exact bodyPost_ret (v:=.agg #[.int .i64 2,.int .i64 st,.int .i64 ct,.int .i64 tick,.int .i64 dx,.int .i64 dy,.int .i64 e2,.int .i64 (1+FA / 2),.int .i64 wi,.int .i64 co,.bool (zz==0)]) (by simp [results,Tryz.results41,go_sem,z0,z1,z2,z3,z4,z5,z6,z7,z8,z9,z10]) rfl (ring_at_out hRF (by omega) ⟨⟨_,_,_,_,_,_,_,_,_,_,_⟩,offE_mk HS0.out (by omega) k0 HF.out.1 HF.out.2.1 ⟨⟨by omega,by omega⟩,⟨by omega,by omega⟩,by omega⟩ ⟨by omega,by omega⟩ ⟨FH.1,by omega⟩ ⟨by omega,by omega⟩ ⟨by omega,by omega⟩,rfl,FH.2,rfl⟩)
        · have hk3:¬ 1+k=2:=by omega
          have q0:=H7.out.q.cell 0 rfl
          have q1:=H7.out.q.cell 1 rfl
          have q2:=H7.out.q.cell 2 rfl
          have q3:=H7.out.q.cell 3 rfl
          have q4:=H7.out.q.cell 4 rfl
          have q5:=H7.out.q.cell 5 rfl
          have q6:=H7.out.q.cell 6 rfl
          have q7:=H7.out.q.cell 7 rfl
          have q8:=H7.out.q.cell 8 rfl
          have q9:=H7.out.q.cell 9 rfl
          have q10:=H7.out.q.cell 10 rfl
          have lq:=H7.out.q.lt
          have fq0:=H7.out.q.frozen 0
          have fq1:=H7.out.q.frozen 1
          have fq2:=H7.out.q.frozen 2
          have fq3:=H7.out.q.frozen 3
          have fq4:=H7.out.q.frozen 4
          have fq5:=H7.out.q.frozen 5
          have fq6:=H7.out.q.frozen 6
          have fq7:=H7.out.q.frozen 7
          have fq8:=H7.out.q.frozen 8
          have fq9:=H7.out.q.frozen 9
          have fq10:=H7.out.q.frozen 10
          have z0:=H7.out.z.cell 0 rfl
          have z1:=H7.out.z.cell 1 rfl
          have z2:=H7.out.z.cell 2 rfl
          have z3:=H7.out.z.cell 3 rfl
          have z4:=H7.out.z.cell 4 rfl
          have z5:=H7.out.z.cell 5 rfl
          have z6:=H7.out.z.cell 6 rfl
          have z7:=H7.out.z.cell 7 rfl
          have z8:=H7.out.z.cell 8 rfl
          have z9:=H7.out.z.cell 9 rfl
          have z10:=H7.out.z.cell 10 rfl
          have fz0:=H7.out.z.frozen 0
          have fz1:=H7.out.z.frozen 1
          have fz2:=H7.out.z.frozen 2
          have fz3:=H7.out.z.frozen 3
          have fz4:=H7.out.z.frozen 4
          have fz5:=H7.out.z.frozen 5
          have fz6:=H7.out.z.frozen 6
          have fz7:=H7.out.z.frozen 7
          have fz8:=H7.out.z.frozen 8
          have fz9:=H7.out.z.frozen 9
          have fz10:=H7.out.z.frozen 10
          have lz:=H7.out.z.lt
          go_wp2_with fail
          refine forgetW (fun WF=>RingAt W B (t+15) WF∧Box WF (W.heap.size+1+1) #[.int .i64 (1+k),.int .i64 st,.int .i64 ct,.int .i64 tick,.int .i64 dx,.int .i64 dy,.int .i64 (er / 4),.int .i64 (1+FA / 2),.int .i64 wi,.int .i64 co,.bool (zz==0)] 50) (OfS.res (((H7.out.set NQ 4 (.int .i64 dx)).set NQ 5 (.int .i64 dy)).set NQ 8 (.int .i64 wi)) _ _ _ _ _ _ _ _ _ _ _ (by omega) rfl) ?_
          clear q0 q1 q2 q3 q4 q5 q6 q7 q8 q9 q10 lq fq0 fq1 fq2 fq3 fq4 fq5 fq6 fq7 fq8 fq9 fq10 z0 z1 z2 z3 z4 z5 z6 z7 z8 z9 z10 fz0 fz1 fz2 fz3 fz4 fz5 fz6 fz7 fz8 fz9 fz10 lz
          rintro WF ⟨hRF,hbF⟩
          have z0:=hbF.cell 0 rfl
          have z1:=hbF.cell 1 rfl
          have z2:=hbF.cell 2 rfl
          have z3:=hbF.cell 3 rfl
          have z4:=hbF.cell 4 rfl
          have z5:=hbF.cell 5 rfl
          have z6:=hbF.cell 6 rfl
          have z7:=hbF.cell 7 rfl
          have z8:=hbF.cell 8 rfl
          have z9:=hbF.cell 9 rfl
          have z10:=hbF.cell 10 rfl
          exact bodyPost_ret (v:=.agg #[.int .i64 (1+k),.int .i64 st,.int .i64 ct,.int .i64 tick,.int .i64 dx,.int .i64 dy,.int .i64 (er / 4),.int .i64 (1+FA / 2),.int .i64 wi,.int .i64 co,.bool (zz==0)]) (by simp [results,Tryz.results41,go_sem,z0,z1,z2,z3,z4,z5,z6,z7,z8,z9,z10]) rfl (ring_at_out hRF (by omega) ⟨⟨_,_,_,_,_,_,_,_,_,_,_⟩,offE_mk HS0.out (by omega) k0 HF.out.1 HF.out.2.1 ⟨⟨by omega,by omega⟩,⟨by omega,by omega⟩,by omega⟩ HF.out.2.2 ⟨FH.1,by omega⟩ ⟨by omega,by omega⟩ ⟨by omega,by omega⟩,rfl,FH.2,rfl⟩)
      · skip
        go_wp2_with fail
        go_at_call 34
        refine forgetC (OfS W B #[.slice a n c,.int .i64 home,.slice sa sn sc,.slice ca cn cc] px py Q  (t+8+3+1+1) #[.int .i64 (1+k),.int .i64 st,.int .i64 ct,.int .i64 tick,.int .i64 0,.int .i64 0,.int .i64 (er / 4),.int .i64 (1+FA / 2),.int .i64 0,.int .i64 co,.bool (zz==0)]) (by (repeat (first|with_reducible apply OfS.ext|with_reducible apply OfS.alloc|with_reducible apply OfS.drew));exact HI.out) ?_
        intro U6 hU6
        have H6:=hide hU6
        clear hU6
        refine (KN.out 300000 (by omega) (by omega) (t+8+3+1+1) _ H6.out.r (by omega)).mono ?_
        rintro _ U7 ⟨_,rfl,⟨wi,wi0,wi1,rfl⟩,hRU7,hgU7⟩
        have H7:=hide (H6.out.grown hRU7 hgU7 NS NQ)
        clear hRU7 hgU7
        by_cases hk2:k=1
        · subst hk2
          have q0:=H7.out.q.cell 0 rfl
          have q1:=H7.out.q.cell 1 rfl
          have q2:=H7.out.q.cell 2 rfl
          have q3:=H7.out.q.cell 3 rfl
          have q4:=H7.out.q.cell 4 rfl
          have q5:=H7.out.q.cell 5 rfl
          have q6:=H7.out.q.cell 6 rfl
          have q7:=H7.out.q.cell 7 rfl
          have q8:=H7.out.q.cell 8 rfl
          have q9:=H7.out.q.cell 9 rfl
          have q10:=H7.out.q.cell 10 rfl
          have lq:=H7.out.q.lt
          have fq0:=H7.out.q.frozen 0
          have fq1:=H7.out.q.frozen 1
          have fq2:=H7.out.q.frozen 2
          have fq3:=H7.out.q.frozen 3
          have fq4:=H7.out.q.frozen 4
          have fq5:=H7.out.q.frozen 5
          have fq6:=H7.out.q.frozen 6
          have fq7:=H7.out.q.frozen 7
          have fq8:=H7.out.q.frozen 8
          have fq9:=H7.out.q.frozen 9
          have fq10:=H7.out.q.frozen 10
          go_wp2_with fail
          go_at_call 34
          refine forgetC (OfS W B #[.slice a n c,.int .i64 home,.slice sa sn sc,.slice ca cn cc] px py Q  (t+8+3+1+1+1) #[.int .i64 2,.int .i64 st,.int .i64 ct,.int .i64 tick,.int .i64 0,.int .i64 dy,.int .i64 (er / 4),.int .i64 (1+FA / 2),.int .i64 wi,.int .i64 co,.bool (zz==0)]) (by (repeat (first|with_reducible apply OfS.ext|with_reducible apply OfS.alloc|with_reducible apply OfS.drew));exact (((H7.out.set NQ 4 (.int .i64 0)).set NQ 5 (.int .i64 dy)).set NQ 8 (.int .i64 wi))) ?_
          intro U8 hU8
          have H8:=hide hU8
          clear q0 q1 q2 q3 q4 q5 q6 q7 q8 q9 q10 lq fq0 fq1 fq2 fq3 fq4 fq5 fq6 fq7 fq8 fq9 fq10
          clear hU8
          refine (KN.out 60 (by omega) (by omega) (t+8+3+1+1+1) _ H8.out.r (by omega)).mono ?_
          rintro _ U9 ⟨_,rfl,⟨e2,e20,e21,rfl⟩,hRU9,hgU9⟩
          have H9:=hide (H8.out.grown hRU9 hgU9 NS NQ)
          clear hRU9 hgU9
          have q0:=H9.out.q.cell 0 rfl
          have q1:=H9.out.q.cell 1 rfl
          have q2:=H9.out.q.cell 2 rfl
          have q3:=H9.out.q.cell 3 rfl
          have q4:=H9.out.q.cell 4 rfl
          have q5:=H9.out.q.cell 5 rfl
          have q6:=H9.out.q.cell 6 rfl
          have q7:=H9.out.q.cell 7 rfl
          have q8:=H9.out.q.cell 8 rfl
          have q9:=H9.out.q.cell 9 rfl
          have q10:=H9.out.q.cell 10 rfl
          have lq:=H9.out.q.lt
          have fq0:=H9.out.q.frozen 0
          have fq1:=H9.out.q.frozen 1
          have fq2:=H9.out.q.frozen 2
          have fq3:=H9.out.q.frozen 3
          have fq4:=H9.out.q.frozen 4
          have fq5:=H9.out.q.frozen 5
          have fq6:=H9.out.q.frozen 6
          have fq7:=H9.out.q.frozen 7
          have fq8:=H9.out.q.frozen 8
          have fq9:=H9.out.q.frozen 9
          have fq10:=H9.out.q.frozen 10
          have z0:=H9.out.z.cell 0 rfl
          have z1:=H9.out.z.cell 1 rfl
          have z2:=H9.out.z.cell 2 rfl
          have z3:=H9.out.z.cell 3 rfl
          have z4:=H9.out.z.cell 4 rfl
          have z5:=H9.out.z.cell 5 rfl
          have z6:=H9.out.z.cell 6 rfl
          have z7:=H9.out.z.cell 7 rfl
          have z8:=H9.out.z.cell 8 rfl
          have z9:=H9.out.z.cell 9 rfl
          have z10:=H9.out.z.cell 10 rfl
          have fz0:=H9.out.z.frozen 0
          have fz1:=H9.out.z.frozen 1
          have fz2:=H9.out.z.frozen 2
          have fz3:=H9.out.z.frozen 3
          have fz4:=H9.out.z.frozen 4
          have fz5:=H9.out.z.frozen 5
          have fz6:=H9.out.z.frozen 6
          have fz7:=H9.out.z.frozen 7
          have fz8:=H9.out.z.frozen 8
          have fz9:=H9.out.z.frozen 9
          have fz10:=H9.out.z.frozen 10
          have lz:=H9.out.z.lt
          go_wp2_with fail
          refine forgetW (fun WF=>RingAt W B (t+15) WF∧Box WF (W.heap.size+1+1) #[.int .i64 2,.int .i64 st,.int .i64 ct,.int .i64 tick,.int .i64 0,.int .i64 dy,.int .i64 e2,.int .i64 (1+FA / 2),.int .i64 wi,.int .i64 co,.bool (zz==0)] 50) (OfS.res (H9.out.set NQ 6 (.int .i64 e2)) _ _ _ _ _ _ _ _ _ _ _ (by omega) rfl) ?_
          clear q0 q1 q2 q3 q4 q5 q6 q7 q8 q9 q10 lq fq0 fq1 fq2 fq3 fq4 fq5 fq6 fq7 fq8 fq9 fq10 z0 z1 z2 z3 z4 z5 z6 z7 z8 z9 z10 fz0 fz1 fz2 fz3 fz4 fz5 fz6 fz7 fz8 fz9 fz10 lz
          rintro WF ⟨hRF,hbF⟩
          have z0:=hbF.cell 0 rfl
          have z1:=hbF.cell 1 rfl
          have z2:=hbF.cell 2 rfl
          have z3:=hbF.cell 3 rfl
          have z4:=hbF.cell 4 rfl
          have z5:=hbF.cell 5 rfl
          have z6:=hbF.cell 6 rfl
          have z7:=hbF.cell 7 rfl
          have z8:=hbF.cell 8 rfl
          have z9:=hbF.cell 9 rfl
          have z10:=hbF.cell 10 rfl
          exact bodyPost_ret (v:=.agg #[.int .i64 2,.int .i64 st,.int .i64 ct,.int .i64 tick,.int .i64 0,.int .i64 dy,.int .i64 e2,.int .i64 (1+FA / 2),.int .i64 wi,.int .i64 co,.bool (zz==0)]) (by simp [results,Tryz.results41,go_sem,z0,z1,z2,z3,z4,z5,z6,z7,z8,z9,z10]) rfl (ring_at_out hRF (by omega) ⟨⟨_,_,_,_,_,_,_,_,_,_,_⟩,offE_mk HS0.out (by omega) k0 HF.out.1 HF.out.2.1 ⟨⟨by omega,by omega⟩,⟨by omega,by omega⟩,by omega⟩ ⟨by omega,by omega⟩ ⟨FH.1,by omega⟩ ⟨by omega,by omega⟩ ⟨by omega,by omega⟩,rfl,FH.2,rfl⟩)
        · have hk3:¬ 1+k=2:=by omega
          have q0:=H7.out.q.cell 0 rfl
          have q1:=H7.out.q.cell 1 rfl
          have q2:=H7.out.q.cell 2 rfl
          have q3:=H7.out.q.cell 3 rfl
          have q4:=H7.out.q.cell 4 rfl
          have q5:=H7.out.q.cell 5 rfl
          have q6:=H7.out.q.cell 6 rfl
          have q7:=H7.out.q.cell 7 rfl
          have q8:=H7.out.q.cell 8 rfl
          have q9:=H7.out.q.cell 9 rfl
          have q10:=H7.out.q.cell 10 rfl
          have lq:=H7.out.q.lt
          have fq0:=H7.out.q.frozen 0
          have fq1:=H7.out.q.frozen 1
          have fq2:=H7.out.q.frozen 2
          have fq3:=H7.out.q.frozen 3
          have fq4:=H7.out.q.frozen 4
          have fq5:=H7.out.q.frozen 5
          have fq6:=H7.out.q.frozen 6
          have fq7:=H7.out.q.frozen 7
          have fq8:=H7.out.q.frozen 8
          have fq9:=H7.out.q.frozen 9
          have fq10:=H7.out.q.frozen 10
          have z0:=H7.out.z.cell 0 rfl
          have z1:=H7.out.z.cell 1 rfl
          have z2:=H7.out.z.cell 2 rfl
          have z3:=H7.out.z.cell 3 rfl
          have z4:=H7.out.z.cell 4 rfl
          have z5:=H7.out.z.cell 5 rfl
          have z6:=H7.out.z.cell 6 rfl
          have z7:=H7.out.z.cell 7 rfl
          have z8:=H7.out.z.cell 8 rfl
          have z9:=H7.out.z.cell 9 rfl
          have z10:=H7.out.z.cell 10 rfl
          have fz0:=H7.out.z.frozen 0
          have fz1:=H7.out.z.frozen 1
          have fz2:=H7.out.z.frozen 2
          have fz3:=H7.out.z.frozen 3
          have fz4:=H7.out.z.frozen 4
          have fz5:=H7.out.z.frozen 5
          have fz6:=H7.out.z.frozen 6
          have fz7:=H7.out.z.frozen 7
          have fz8:=H7.out.z.frozen 8
          have fz9:=H7.out.z.frozen 9
          have fz10:=H7.out.z.frozen 10
          have lz:=H7.out.z.lt
          go_wp2_with fail
          refine forgetW (fun WF=>RingAt W B (t+15) WF∧Box WF (W.heap.size+1+1) #[.int .i64 (1+k),.int .i64 st,.int .i64 ct,.int .i64 tick,.int .i64 0,.int .i64 dy,.int .i64 (er / 4),.int .i64 (1+FA / 2),.int .i64 wi,.int .i64 co,.bool (zz==0)] 50) (OfS.res (((H7.out.set NQ 4 (.int .i64 0)).set NQ 5 (.int .i64 dy)).set NQ 8 (.int .i64 wi)) _ _ _ _ _ _ _ _ _ _ _ (by omega) rfl) ?_
          clear q0 q1 q2 q3 q4 q5 q6 q7 q8 q9 q10 lq fq0 fq1 fq2 fq3 fq4 fq5 fq6 fq7 fq8 fq9 fq10 z0 z1 z2 z3 z4 z5 z6 z7 z8 z9 z10 fz0 fz1 fz2 fz3 fz4 fz5 fz6 fz7 fz8 fz9 fz10 lz
          rintro WF ⟨hRF,hbF⟩
          have z0:=hbF.cell 0 rfl
          have z1:=hbF.cell 1 rfl
          have z2:=hbF.cell 2 rfl
          have z3:=hbF.cell 3 rfl
          have z4:=hbF.cell 4 rfl
          have z5:=hbF.cell 5 rfl
          have z6:=hbF.cell 6 rfl
          have z7:=hbF.cell 7 rfl
          have z8:=hbF.cell 8 rfl
          have z9:=hbF.cell 9 rfl
          have z10:=hbF.cell 10 rfl
          exact bodyPost_ret (v:=.agg #[.int .i64 (1+k),.int .i64 st,.int .i64 ct,.int .i64 tick,.int .i64 0,.int .i64 dy,.int .i64 (er / 4),.int .i64 (1+FA / 2),.int .i64 wi,.int .i64 co,.bool (zz==0)]) (by simp [results,Tryz.results41,go_sem,z0,z1,z2,z3,z4,z5,z6,z7,z8,z9,z10]) rfl (ring_at_out hRF (by omega) ⟨⟨_,_,_,_,_,_,_,_,_,_,_⟩,offE_mk HS0.out (by omega) k0 HF.out.1 HF.out.2.1 ⟨⟨by omega,by omega⟩,⟨by omega,by omega⟩,by omega⟩ HF.out.2.2 ⟨FH.1,by omega⟩ ⟨by omega,by omega⟩ ⟨by omega,by omega⟩,rfl,FH.2,rfl⟩)
 · have h6b:(h6==0)=false:=by simp [h60]
   have q0:=H5.out.q.cell 0 rfl
   have q1:=H5.out.q.cell 1 rfl
   have q2:=H5.out.q.cell 2 rfl
   have q3:=H5.out.q.cell 3 rfl
   have q4:=H5.out.q.cell 4 rfl
   have q5:=H5.out.q.cell 5 rfl
   have q6:=H5.out.q.cell 6 rfl
   have q7:=H5.out.q.cell 7 rfl
   have q8:=H5.out.q.cell 8 rfl
   have q9:=H5.out.q.cell 9 rfl
   have q10:=H5.out.q.cell 10 rfl
   have lq:=H5.out.q.lt
   have fq0:=H5.out.q.frozen 0
   have fq1:=H5.out.q.frozen 1
   have fq2:=H5.out.q.frozen 2
   have fq3:=H5.out.q.frozen 3
   have fq4:=H5.out.q.frozen 4
   have fq5:=H5.out.q.frozen 5
   have fq6:=H5.out.q.frozen 6
   have fq7:=H5.out.q.frozen 7
   have fq8:=H5.out.q.frozen 8
   have fq9:=H5.out.q.frozen 9
   have fq10:=H5.out.q.frozen 10
   go_wp2_with fail
   go_loopw [13,14] (fun s13 s14 wr=>∃ dx dy:Int,s13=.int .i64 dx∧s14=.int .i64 dy∧((-70000000≤dx∧dx≤70000000) ∧ -70000000≤dy∧dy≤70000000)∧Hid (OfS W B #[.slice a n c,.int .i64 home,.slice sa sn sc,.slice ca cn cc] px py Q  (t+8+3+1+1) #[.int .i64 (1+k),.int .i64 st,.int .i64 ct,.int .i64 tick,.int .i64 0,.int .i64 0,.int .i64 (er / 4),.int .i64 FA,.int .i64 0,.int .i64 co,.bool (zz==0)] wr)) (fun s13 s14 _=>(intOf s13).natAbs+(intOf s14).natAbs)
   case atStart=>exact ⟨_,_,rfl,rfl,by omega,hide H5.out⟩
   case round =>
    obtain ⟨dx,dy,rfl,rfl,hb,HI⟩:=hrel
    clear q0 q1 q2 q3 q4 q5 q6 q7 q8 q9 q10 lq fq0 fq1 fq2 fq3 fq4 fq5 fq6 fq7 fq8 fq9 fq10
    by_cases hh:halfOut dx dy
    · have hm:=half_less hh
      have g1:=half_bd hb.1 (by omega)
      have g2:=half_bd hb.2 (by omega)
      have hh':4096<dx∨(¬ 4096<dx∧4096 < -dx)∨(¬ 4096<dx∧¬ 4096 < -dx∧4096<dy)∨(¬ 4096<dx∧¬ 4096 < -dx∧¬ 4096<dy∧4096 < -dy):=by unfold halfOut at hh;omega
      clear hh
      rcases hh' with h | ⟨h,h'⟩ | ⟨h,h',h''⟩ | ⟨h,h',h'',h3⟩
      all_goals
       go_wp2_with fail
       go_roundw
       case rel=>exact ⟨_,_,rfl,rfl,by omega,HI⟩
       case measure=>exact hm
    · have c1:¬ 4096<dx:=by unfold halfOut at hh;omega
      have c2:¬ 4096 < -dx:=by unfold halfOut at hh;omega
      have c3:¬ 4096<dy:=by unfold halfOut at hh;omega
      have c4:¬ 4096 < -dy:=by unfold halfOut at hh;omega
      clear hh
      have hz:(dx=0∧dy=0)∨¬ dx=0∨(dx=0∧¬ dy=0):=by omega
      rcases hz with ⟨rfl,rfl⟩ | hz | ⟨rfl,hz⟩
      · skip
        go_wp2_with fail
        go_at_call 34
        refine forgetC (OfS W B #[.slice a n c,.int .i64 home,.slice sa sn sc,.slice ca cn cc] px py Q  (t+8+3+1+1) #[.int .i64 (1+k),.int .i64 st,.int .i64 ct,.int .i64 tick,.int .i64 0,.int .i64 0,.int .i64 (er / 4),.int .i64 FA,.int .i64 0,.int .i64 co,.bool (zz==0)]) (by (repeat (first|with_reducible apply OfS.ext|with_reducible apply OfS.alloc|with_reducible apply OfS.drew));exact HI.out) ?_
        intro U6 hU6
        have H6:=hide hU6
        clear hU6
        refine (KN.out 300000 (by omega) (by omega) (t+8+3+1+1) _ H6.out.r (by omega)).mono ?_
        rintro _ U7 ⟨_,rfl,⟨wi,wi0,wi1,rfl⟩,hRU7,hgU7⟩
        have H7:=hide (H6.out.grown hRU7 hgU7 NS NQ)
        clear hRU7 hgU7
        by_cases hk2:k=1
        · subst hk2
          have q0:=H7.out.q.cell 0 rfl
          have q1:=H7.out.q.cell 1 rfl
          have q2:=H7.out.q.cell 2 rfl
          have q3:=H7.out.q.cell 3 rfl
          have q4:=H7.out.q.cell 4 rfl
          have q5:=H7.out.q.cell 5 rfl
          have q6:=H7.out.q.cell 6 rfl
          have q7:=H7.out.q.cell 7 rfl
          have q8:=H7.out.q.cell 8 rfl
          have q9:=H7.out.q.cell 9 rfl
          have q10:=H7.out.q.cell 10 rfl
          have lq:=H7.out.q.lt
          have fq0:=H7.out.q.frozen 0
          have fq1:=H7.out.q.frozen 1
          have fq2:=H7.out.q.frozen 2
          have fq3:=H7.out.q.frozen 3
          have fq4:=H7.out.q.frozen 4
          have fq5:=H7.out.q.frozen 5
          have fq6:=H7.out.q.frozen 6
          have fq7:=H7.out.q.frozen 7
          have fq8:=H7.out.q.frozen 8
          have fq9:=H7.out.q.frozen 9
          have fq10:=H7.out.q.frozen 10
          go_wp2_with fail
          go_at_call 34
          refine forgetC (OfS W B #[.slice a n c,.int .i64 home,.slice sa sn sc,.slice ca cn cc] px py Q  (t+8+3+1+1+1) #[.int .i64 2,.int .i64 st,.int .i64 ct,.int .i64 tick,.int .i64 1,.int .i64 0,.int .i64 (er / 4),.int .i64 FA,.int .i64 wi,.int .i64 co,.bool (zz==0)]) (by (repeat (first|with_reducible apply OfS.ext|with_reducible apply OfS.alloc|with_reducible apply OfS.drew));exact (((H7.out.set NQ 4 (.int .i64 1)).set NQ 5 (.int .i64 0)).set NQ 8 (.int .i64 wi))) ?_
          intro U8 hU8
          have H8:=hide hU8
          clear q0 q1 q2 q3 q4 q5 q6 q7 q8 q9 q10 lq fq0 fq1 fq2 fq3 fq4 fq5 fq6 fq7 fq8 fq9 fq10
          clear hU8
          refine (KN.out 60 (by omega) (by omega) (t+8+3+1+1+1) _ H8.out.r (by omega)).mono ?_
          rintro _ U9 ⟨_,rfl,⟨e2,e20,e21,rfl⟩,hRU9,hgU9⟩
          have H9:=hide (H8.out.grown hRU9 hgU9 NS NQ)
          clear hRU9 hgU9
          have q0:=H9.out.q.cell 0 rfl
          have q1:=H9.out.q.cell 1 rfl
          have q2:=H9.out.q.cell 2 rfl
          have q3:=H9.out.q.cell 3 rfl
          have q4:=H9.out.q.cell 4 rfl
          have q5:=H9.out.q.cell 5 rfl
          have q6:=H9.out.q.cell 6 rfl
          have q7:=H9.out.q.cell 7 rfl
          have q8:=H9.out.q.cell 8 rfl
          have q9:=H9.out.q.cell 9 rfl
          have q10:=H9.out.q.cell 10 rfl
          have lq:=H9.out.q.lt
          have fq0:=H9.out.q.frozen 0
          have fq1:=H9.out.q.frozen 1
          have fq2:=H9.out.q.frozen 2
          have fq3:=H9.out.q.frozen 3
          have fq4:=H9.out.q.frozen 4
          have fq5:=H9.out.q.frozen 5
          have fq6:=H9.out.q.frozen 6
          have fq7:=H9.out.q.frozen 7
          have fq8:=H9.out.q.frozen 8
          have fq9:=H9.out.q.frozen 9
          have fq10:=H9.out.q.frozen 10
          have z0:=H9.out.z.cell 0 rfl
          have z1:=H9.out.z.cell 1 rfl
          have z2:=H9.out.z.cell 2 rfl
          have z3:=H9.out.z.cell 3 rfl
          have z4:=H9.out.z.cell 4 rfl
          have z5:=H9.out.z.cell 5 rfl
          have z6:=H9.out.z.cell 6 rfl
          have z7:=H9.out.z.cell 7 rfl
          have z8:=H9.out.z.cell 8 rfl
          have z9:=H9.out.z.cell 9 rfl
          have z10:=H9.out.z.cell 10 rfl
          have fz0:=H9.out.z.frozen 0
          have fz1:=H9.out.z.frozen 1
          have fz2:=H9.out.z.frozen 2
          have fz3:=H9.out.z.frozen 3
          have fz4:=H9.out.z.frozen 4
          have fz5:=H9.out.z.frozen 5
          have fz6:=H9.out.z.frozen 6
          have fz7:=H9.out.z.frozen 7
          have fz8:=H9.out.z.frozen 8
          have fz9:=H9.out.z.frozen 9
          have fz10:=H9.out.z.frozen 10
          have lz:=H9.out.z.lt
          go_wp2_with fail
          refine forgetW (fun WF=>RingAt W B (t+15) WF∧Box WF (W.heap.size+1+1) #[.int .i64 2,.int .i64 st,.int .i64 ct,.int .i64 tick,.int .i64 1,.int .i64 0,.int .i64 e2,.int .i64 FA,.int .i64 wi,.int .i64 co,.bool (zz==0)] 50) (OfS.res (H9.out.set NQ 6 (.int .i64 e2)) _ _ _ _ _ _ _ _ _ _ _ (by omega) rfl) ?_
          clear q0 q1 q2 q3 q4 q5 q6 q7 q8 q9 q10 lq fq0 fq1 fq2 fq3 fq4 fq5 fq6 fq7 fq8 fq9 fq10 z0 z1 z2 z3 z4 z5 z6 z7 z8 z9 z10 fz0 fz1 fz2 fz3 fz4 fz5 fz6 fz7 fz8 fz9 fz10 lz
          rintro WF ⟨hRF,hbF⟩
          have z0:=hbF.cell 0 rfl
          have z1:=hbF.cell 1 rfl
          have z2:=hbF.cell 2 rfl
          have z3:=hbF.cell 3 rfl
          have z4:=hbF.cell 4 rfl
          have z5:=hbF.cell 5 rfl
          have z6:=hbF.cell 6 rfl
          have z7:=hbF.cell 7 rfl
          have z8:=hbF.cell 8 rfl
          have z9:=hbF.cell 9 rfl
          have z10:=hbF.cell 10 rfl
          exact bodyPost_ret (v:=.agg #[.int .i64 2,.int .i64 st,.int .i64 ct,.int .i64 tick,.int .i64 1,.int .i64 0,.int .i64 e2,.int .i64 FA,.int .i64 wi,.int .i64 co,.bool (zz==0)]) (by simp [results,Tryz.results41,go_sem,z0,z1,z2,z3,z4,z5,z6,z7,z8,z9,z10]) rfl (ring_at_out hRF (by omega) ⟨⟨_,_,_,_,_,_,_,_,_,_,_⟩,offE_mk HS0.out (by omega) k0 HF.out.1 HF.out.2.1 ⟨⟨by omega,by omega⟩,⟨by omega,by omega⟩,by omega⟩ ⟨by omega,by omega⟩ ⟨FA0.1,by omega⟩ ⟨by omega,by omega⟩ ⟨by omega,by omega⟩,rfl,FA0.2,rfl⟩)
        · have hk3:¬ 1+k=2:=by omega
          have q0:=H7.out.q.cell 0 rfl
          have q1:=H7.out.q.cell 1 rfl
          have q2:=H7.out.q.cell 2 rfl
          have q3:=H7.out.q.cell 3 rfl
          have q4:=H7.out.q.cell 4 rfl
          have q5:=H7.out.q.cell 5 rfl
          have q6:=H7.out.q.cell 6 rfl
          have q7:=H7.out.q.cell 7 rfl
          have q8:=H7.out.q.cell 8 rfl
          have q9:=H7.out.q.cell 9 rfl
          have q10:=H7.out.q.cell 10 rfl
          have lq:=H7.out.q.lt
          have fq0:=H7.out.q.frozen 0
          have fq1:=H7.out.q.frozen 1
          have fq2:=H7.out.q.frozen 2
          have fq3:=H7.out.q.frozen 3
          have fq4:=H7.out.q.frozen 4
          have fq5:=H7.out.q.frozen 5
          have fq6:=H7.out.q.frozen 6
          have fq7:=H7.out.q.frozen 7
          have fq8:=H7.out.q.frozen 8
          have fq9:=H7.out.q.frozen 9
          have fq10:=H7.out.q.frozen 10
          have z0:=H7.out.z.cell 0 rfl
          have z1:=H7.out.z.cell 1 rfl
          have z2:=H7.out.z.cell 2 rfl
          have z3:=H7.out.z.cell 3 rfl
          have z4:=H7.out.z.cell 4 rfl
          have z5:=H7.out.z.cell 5 rfl
          have z6:=H7.out.z.cell 6 rfl
          have z7:=H7.out.z.cell 7 rfl
          have z8:=H7.out.z.cell 8 rfl
          have z9:=H7.out.z.cell 9 rfl
          have z10:=H7.out.z.cell 10 rfl
          have fz0:=H7.out.z.frozen 0
          have fz1:=H7.out.z.frozen 1
          have fz2:=H7.out.z.frozen 2
          have fz3:=H7.out.z.frozen 3
          have fz4:=H7.out.z.frozen 4
          have fz5:=H7.out.z.frozen 5
          have fz6:=H7.out.z.frozen 6
          have fz7:=H7.out.z.frozen 7
          have fz8:=H7.out.z.frozen 8
          have fz9:=H7.out.z.frozen 9
          have fz10:=H7.out.z.frozen 10
          have lz:=H7.out.z.lt
          go_wp2_with fail
          refine forgetW (fun WF=>RingAt W B (t+15) WF∧Box WF (W.heap.size+1+1) #[.int .i64 (1+k),.int .i64 st,.int .i64 ct,.int .i64 tick,.int .i64 1,.int .i64 0,.int .i64 (er / 4),.int .i64 FA,.int .i64 wi,.int .i64 co,.bool (zz==0)] 50) (OfS.res (((H7.out.set NQ 4 (.int .i64 1)).set NQ 5 (.int .i64 0)).set NQ 8 (.int .i64 wi)) _ _ _ _ _ _ _ _ _ _ _ (by omega) rfl) ?_
          clear q0 q1 q2 q3 q4 q5 q6 q7 q8 q9 q10 lq fq0 fq1 fq2 fq3 fq4 fq5 fq6 fq7 fq8 fq9 fq10 z0 z1 z2 z3 z4 z5 z6 z7 z8 z9 z10 fz0 fz1 fz2 fz3 fz4 fz5 fz6 fz7 fz8 fz9 fz10 lz
          rintro WF ⟨hRF,hbF⟩
          have z0:=hbF.cell 0 rfl
          have z1:=hbF.cell 1 rfl
          have z2:=hbF.cell 2 rfl
          have z3:=hbF.cell 3 rfl
          have z4:=hbF.cell 4 rfl
          have z5:=hbF.cell 5 rfl
          have z6:=hbF.cell 6 rfl
          have z7:=hbF.cell 7 rfl
          have z8:=hbF.cell 8 rfl
          have z9:=hbF.cell 9 rfl
          have z10:=hbF.cell 10 rfl
          exact bodyPost_ret (v:=.agg #[.int .i64 (1+k),.int .i64 st,.int .i64 ct,.int .i64 tick,.int .i64 1,.int .i64 0,.int .i64 (er / 4),.int .i64 FA,.int .i64 wi,.int .i64 co,.bool (zz==0)]) (by simp [results,Tryz.results41,go_sem,z0,z1,z2,z3,z4,z5,z6,z7,z8,z9,z10]) rfl (ring_at_out hRF (by omega) ⟨⟨_,_,_,_,_,_,_,_,_,_,_⟩,offE_mk HS0.out (by omega) k0 HF.out.1 HF.out.2.1 ⟨⟨by omega,by omega⟩,⟨by omega,by omega⟩,by omega⟩ HF.out.2.2 ⟨FA0.1,by omega⟩ ⟨by omega,by omega⟩ ⟨by omega,by omega⟩,rfl,FA0.2,rfl⟩)
      · skip
        go_wp2_with fail
        go_at_call 34
        refine forgetC (OfS W B #[.slice a n c,.int .i64 home,.slice sa sn sc,.slice ca cn cc] px py Q  (t+8+3+1+1) #[.int .i64 (1+k),.int .i64 st,.int .i64 ct,.int .i64 tick,.int .i64 0,.int .i64 0,.int .i64 (er / 4),.int .i64 FA,.int .i64 0,.int .i64 co,.bool (zz==0)]) (by (repeat (first|with_reducible apply OfS.ext|with_reducible apply OfS.alloc|with_reducible apply OfS.drew));exact HI.out) ?_
        intro U6 hU6
        have H6:=hide hU6
        clear hU6
        refine (KN.out 300000 (by omega) (by omega) (t+8+3+1+1) _ H6.out.r (by omega)).mono ?_
        rintro _ U7 ⟨_,rfl,⟨wi,wi0,wi1,rfl⟩,hRU7,hgU7⟩
        have H7:=hide (H6.out.grown hRU7 hgU7 NS NQ)
        clear hRU7 hgU7
        by_cases hk2:k=1
        · subst hk2
          have q0:=H7.out.q.cell 0 rfl
          have q1:=H7.out.q.cell 1 rfl
          have q2:=H7.out.q.cell 2 rfl
          have q3:=H7.out.q.cell 3 rfl
          have q4:=H7.out.q.cell 4 rfl
          have q5:=H7.out.q.cell 5 rfl
          have q6:=H7.out.q.cell 6 rfl
          have q7:=H7.out.q.cell 7 rfl
          have q8:=H7.out.q.cell 8 rfl
          have q9:=H7.out.q.cell 9 rfl
          have q10:=H7.out.q.cell 10 rfl
          have lq:=H7.out.q.lt
          have fq0:=H7.out.q.frozen 0
          have fq1:=H7.out.q.frozen 1
          have fq2:=H7.out.q.frozen 2
          have fq3:=H7.out.q.frozen 3
          have fq4:=H7.out.q.frozen 4
          have fq5:=H7.out.q.frozen 5
          have fq6:=H7.out.q.frozen 6
          have fq7:=H7.out.q.frozen 7
          have fq8:=H7.out.q.frozen 8
          have fq9:=H7.out.q.frozen 9
          have fq10:=H7.out.q.frozen 10
          go_wp2_with fail
          go_at_call 34
          refine forgetC (OfS W B #[.slice a n c,.int .i64 home,.slice sa sn sc,.slice ca cn cc] px py Q  (t+8+3+1+1+1) #[.int .i64 2,.int .i64 st,.int .i64 ct,.int .i64 tick,.int .i64 dx,.int .i64 dy,.int .i64 (er / 4),.int .i64 FA,.int .i64 wi,.int .i64 co,.bool (zz==0)]) (by (repeat (first|with_reducible apply OfS.ext|with_reducible apply OfS.alloc|with_reducible apply OfS.drew));exact (((H7.out.set NQ 4 (.int .i64 dx)).set NQ 5 (.int .i64 dy)).set NQ 8 (.int .i64 wi))) ?_
          intro U8 hU8
          have H8:=hide hU8
          clear q0 q1 q2 q3 q4 q5 q6 q7 q8 q9 q10 lq fq0 fq1 fq2 fq3 fq4 fq5 fq6 fq7 fq8 fq9 fq10
          clear hU8
          refine (KN.out 60 (by omega) (by omega) (t+8+3+1+1+1) _ H8.out.r (by omega)).mono ?_
          rintro _ U9 ⟨_,rfl,⟨e2,e20,e21,rfl⟩,hRU9,hgU9⟩
          have H9:=hide (H8.out.grown hRU9 hgU9 NS NQ)
          clear hRU9 hgU9
          have q0:=H9.out.q.cell 0 rfl
          have q1:=H9.out.q.cell 1 rfl
          have q2:=H9.out.q.cell 2 rfl
          have q3:=H9.out.q.cell 3 rfl
          have q4:=H9.out.q.cell 4 rfl
          have q5:=H9.out.q.cell 5 rfl
          have q6:=H9.out.q.cell 6 rfl
          have q7:=H9.out.q.cell 7 rfl
          have q8:=H9.out.q.cell 8 rfl
          have q9:=H9.out.q.cell 9 rfl
          have q10:=H9.out.q.cell 10 rfl
          have lq:=H9.out.q.lt
          have fq0:=H9.out.q.frozen 0
          have fq1:=H9.out.q.frozen 1
          have fq2:=H9.out.q.frozen 2
          have fq3:=H9.out.q.frozen 3
          have fq4:=H9.out.q.frozen 4
          have fq5:=H9.out.q.frozen 5
          have fq6:=H9.out.q.frozen 6
          have fq7:=H9.out.q.frozen 7
          have fq8:=H9.out.q.frozen 8
          have fq9:=H9.out.q.frozen 9
          have fq10:=H9.out.q.frozen 10
          have z0:=H9.out.z.cell 0 rfl
          have z1:=H9.out.z.cell 1 rfl
          have z2:=H9.out.z.cell 2 rfl
          have z3:=H9.out.z.cell 3 rfl
          have z4:=H9.out.z.cell 4 rfl
          have z5:=H9.out.z.cell 5 rfl
          have z6:=H9.out.z.cell 6 rfl
          have z7:=H9.out.z.cell 7 rfl
          have z8:=H9.out.z.cell 8 rfl
          have z9:=H9.out.z.cell 9 rfl
          have z10:=H9.out.z.cell 10 rfl
          have fz0:=H9.out.z.frozen 0
          have fz1:=H9.out.z.frozen 1
          have fz2:=H9.out.z.frozen 2
          have fz3:=H9.out.z.frozen 3
          have fz4:=H9.out.z.frozen 4
          have fz5:=H9.out.z.frozen 5
          have fz6:=H9.out.z.frozen 6
          have fz7:=H9.out.z.frozen 7
          have fz8:=H9.out.z.frozen 8
          have fz9:=H9.out.z.frozen 9
          have fz10:=H9.out.z.frozen 10
          have lz:=H9.out.z.lt
          go_wp2_with fail
          refine forgetW (fun WF=>RingAt W B (t+15) WF∧Box WF (W.heap.size+1+1) #[.int .i64 2,.int .i64 st,.int .i64 ct,.int .i64 tick,.int .i64 dx,.int .i64 dy,.int .i64 e2,.int .i64 FA,.int .i64 wi,.int .i64 co,.bool (zz==0)] 50) (OfS.res (H9.out.set NQ 6 (.int .i64 e2)) _ _ _ _ _ _ _ _ _ _ _ (by omega) rfl) ?_
          clear q0 q1 q2 q3 q4 q5 q6 q7 q8 q9 q10 lq fq0 fq1 fq2 fq3 fq4 fq5 fq6 fq7 fq8 fq9 fq10 z0 z1 z2 z3 z4 z5 z6 z7 z8 z9 z10 fz0 fz1 fz2 fz3 fz4 fz5 fz6 fz7 fz8 fz9 fz10 lz
          rintro WF ⟨hRF,hbF⟩
          have z0:=hbF.cell 0 rfl
          have z1:=hbF.cell 1 rfl
          have z2:=hbF.cell 2 rfl
          have z3:=hbF.cell 3 rfl
          have z4:=hbF.cell 4 rfl
          have z5:=hbF.cell 5 rfl
          have z6:=hbF.cell 6 rfl
          have z7:=hbF.cell 7 rfl
          have z8:=hbF.cell 8 rfl
          have z9:=hbF.cell 9 rfl
          have z10:=hbF.cell 10 rfl
          exact bodyPost_ret (v:=.agg #[.int .i64 2,.int .i64 st,.int .i64 ct,.int .i64 tick,.int .i64 dx,.int .i64 dy,.int .i64 e2,.int .i64 FA,.int .i64 wi,.int .i64 co,.bool (zz==0)]) (by simp [results,Tryz.results41,go_sem,z0,z1,z2,z3,z4,z5,z6,z7,z8,z9,z10]) rfl (ring_at_out hRF (by omega) ⟨⟨_,_,_,_,_,_,_,_,_,_,_⟩,offE_mk HS0.out (by omega) k0 HF.out.1 HF.out.2.1 ⟨⟨by omega,by omega⟩,⟨by omega,by omega⟩,by omega⟩ ⟨by omega,by omega⟩ ⟨FA0.1,by omega⟩ ⟨by omega,by omega⟩ ⟨by omega,by omega⟩,rfl,FA0.2,rfl⟩)
        · have hk3:¬ 1+k=2:=by omega
          have q0:=H7.out.q.cell 0 rfl
          have q1:=H7.out.q.cell 1 rfl
          have q2:=H7.out.q.cell 2 rfl
          have q3:=H7.out.q.cell 3 rfl
          have q4:=H7.out.q.cell 4 rfl
          have q5:=H7.out.q.cell 5 rfl
          have q6:=H7.out.q.cell 6 rfl
          have q7:=H7.out.q.cell 7 rfl
          have q8:=H7.out.q.cell 8 rfl
          have q9:=H7.out.q.cell 9 rfl
          have q10:=H7.out.q.cell 10 rfl
          have lq:=H7.out.q.lt
          have fq0:=H7.out.q.frozen 0
          have fq1:=H7.out.q.frozen 1
          have fq2:=H7.out.q.frozen 2
          have fq3:=H7.out.q.frozen 3
          have fq4:=H7.out.q.frozen 4
          have fq5:=H7.out.q.frozen 5
          have fq6:=H7.out.q.frozen 6
          have fq7:=H7.out.q.frozen 7
          have fq8:=H7.out.q.frozen 8
          have fq9:=H7.out.q.frozen 9
          have fq10:=H7.out.q.frozen 10
          have z0:=H7.out.z.cell 0 rfl
          have z1:=H7.out.z.cell 1 rfl
          have z2:=H7.out.z.cell 2 rfl
          have z3:=H7.out.z.cell 3 rfl
          have z4:=H7.out.z.cell 4 rfl
          have z5:=H7.out.z.cell 5 rfl
          have z6:=H7.out.z.cell 6 rfl
          have z7:=H7.out.z.cell 7 rfl
          have z8:=H7.out.z.cell 8 rfl
          have z9:=H7.out.z.cell 9 rfl
          have z10:=H7.out.z.cell 10 rfl
          have fz0:=H7.out.z.frozen 0
          have fz1:=H7.out.z.frozen 1
          have fz2:=H7.out.z.frozen 2
          have fz3:=H7.out.z.frozen 3
          have fz4:=H7.out.z.frozen 4
          have fz5:=H7.out.z.frozen 5
          have fz6:=H7.out.z.frozen 6
          have fz7:=H7.out.z.frozen 7
          have fz8:=H7.out.z.frozen 8
          have fz9:=H7.out.z.frozen 9
          have fz10:=H7.out.z.frozen 10
          have lz:=H7.out.z.lt
          go_wp2_with fail
          refine forgetW (fun WF=>RingAt W B (t+15) WF∧Box WF (W.heap.size+1+1) #[.int .i64 (1+k),.int .i64 st,.int .i64 ct,.int .i64 tick,.int .i64 dx,.int .i64 dy,.int .i64 (er / 4),.int .i64 FA,.int .i64 wi,.int .i64 co,.bool (zz==0)] 50) (OfS.res (((H7.out.set NQ 4 (.int .i64 dx)).set NQ 5 (.int .i64 dy)).set NQ 8 (.int .i64 wi)) _ _ _ _ _ _ _ _ _ _ _ (by omega) rfl) ?_
          clear q0 q1 q2 q3 q4 q5 q6 q7 q8 q9 q10 lq fq0 fq1 fq2 fq3 fq4 fq5 fq6 fq7 fq8 fq9 fq10 z0 z1 z2 z3 z4 z5 z6 z7 z8 z9 z10 fz0 fz1 fz2 fz3 fz4 fz5 fz6 fz7 fz8 fz9 fz10 lz
          rintro WF ⟨hRF,hbF⟩
          have z0:=hbF.cell 0 rfl
          have z1:=hbF.cell 1 rfl
          have z2:=hbF.cell 2 rfl
          have z3:=hbF.cell 3 rfl
          have z4:=hbF.cell 4 rfl
          have z5:=hbF.cell 5 rfl
          have z6:=hbF.cell 6 rfl
          have z7:=hbF.cell 7 rfl
          have z8:=hbF.cell 8 rfl
          have z9:=hbF.cell 9 rfl
          have z10:=hbF.cell 10 rfl
          exact bodyPost_ret (v:=.agg #[.int .i64 (1+k),.int .i64 st,.int .i64 ct,.int .i64 tick,.int .i64 dx,.int .i64 dy,.int .i64 (er / 4),.int .i64 FA,.int .i64 wi,.int .i64 co,.bool (zz==0)]) (by simp [results,Tryz.results41,go_sem,z0,z1,z2,z3,z4,z5,z6,z7,z8,z9,z10]) rfl (ring_at_out hRF (by omega) ⟨⟨_,_,_,_,_,_,_,_,_,_,_⟩,offE_mk HS0.out (by omega) k0 HF.out.1 HF.out.2.1 ⟨⟨by omega,by omega⟩,⟨by omega,by omega⟩,by omega⟩ HF.out.2.2 ⟨FA0.1,by omega⟩ ⟨by omega,by omega⟩ ⟨by omega,by omega⟩,rfl,FA0.2,rfl⟩)
      · skip
        go_wp2_with fail
        go_at_call 34
        refine forgetC (OfS W B #[.slice a n c,.int .i64 home,.slice sa sn sc,.slice ca cn cc] px py Q  (t+8+3+1+1) #[.int .i64 (1+k),.int .i64 st,.int .i64 ct,.int .i64 tick,.int .i64 0,.int .i64 0,.int .i64 (er / 4),.int .i64 FA,.int .i64 0,.int .i64 co,.bool (zz==0)]) (by (repeat (first|with_reducible apply OfS.ext|with_reducible apply OfS.alloc|with_reducible apply OfS.drew));exact HI.out) ?_
        intro U6 hU6
        have H6:=hide hU6
        clear hU6
        refine (KN.out 300000 (by omega) (by omega) (t+8+3+1+1) _ H6.out.r (by omega)).mono ?_
        rintro _ U7 ⟨_,rfl,⟨wi,wi0,wi1,rfl⟩,hRU7,hgU7⟩
        have H7:=hide (H6.out.grown hRU7 hgU7 NS NQ)
        clear hRU7 hgU7
        by_cases hk2:k=1
        · subst hk2
          have q0:=H7.out.q.cell 0 rfl
          have q1:=H7.out.q.cell 1 rfl
          have q2:=H7.out.q.cell 2 rfl
          have q3:=H7.out.q.cell 3 rfl
          have q4:=H7.out.q.cell 4 rfl
          have q5:=H7.out.q.cell 5 rfl
          have q6:=H7.out.q.cell 6 rfl
          have q7:=H7.out.q.cell 7 rfl
          have q8:=H7.out.q.cell 8 rfl
          have q9:=H7.out.q.cell 9 rfl
          have q10:=H7.out.q.cell 10 rfl
          have lq:=H7.out.q.lt
          have fq0:=H7.out.q.frozen 0
          have fq1:=H7.out.q.frozen 1
          have fq2:=H7.out.q.frozen 2
          have fq3:=H7.out.q.frozen 3
          have fq4:=H7.out.q.frozen 4
          have fq5:=H7.out.q.frozen 5
          have fq6:=H7.out.q.frozen 6
          have fq7:=H7.out.q.frozen 7
          have fq8:=H7.out.q.frozen 8
          have fq9:=H7.out.q.frozen 9
          have fq10:=H7.out.q.frozen 10
          go_wp2_with fail
          go_at_call 34
          refine forgetC (OfS W B #[.slice a n c,.int .i64 home,.slice sa sn sc,.slice ca cn cc] px py Q  (t+8+3+1+1+1) #[.int .i64 2,.int .i64 st,.int .i64 ct,.int .i64 tick,.int .i64 0,.int .i64 dy,.int .i64 (er / 4),.int .i64 FA,.int .i64 wi,.int .i64 co,.bool (zz==0)]) (by (repeat (first|with_reducible apply OfS.ext|with_reducible apply OfS.alloc|with_reducible apply OfS.drew));exact (((H7.out.set NQ 4 (.int .i64 0)).set NQ 5 (.int .i64 dy)).set NQ 8 (.int .i64 wi))) ?_
          intro U8 hU8
          have H8:=hide hU8
          clear q0 q1 q2 q3 q4 q5 q6 q7 q8 q9 q10 lq fq0 fq1 fq2 fq3 fq4 fq5 fq6 fq7 fq8 fq9 fq10
          clear hU8
          refine (KN.out 60 (by omega) (by omega) (t+8+3+1+1+1) _ H8.out.r (by omega)).mono ?_
          rintro _ U9 ⟨_,rfl,⟨e2,e20,e21,rfl⟩,hRU9,hgU9⟩
          have H9:=hide (H8.out.grown hRU9 hgU9 NS NQ)
          clear hRU9 hgU9
          have q0:=H9.out.q.cell 0 rfl
          have q1:=H9.out.q.cell 1 rfl
          have q2:=H9.out.q.cell 2 rfl
          have q3:=H9.out.q.cell 3 rfl
          have q4:=H9.out.q.cell 4 rfl
          have q5:=H9.out.q.cell 5 rfl
          have q6:=H9.out.q.cell 6 rfl
          have q7:=H9.out.q.cell 7 rfl
          have q8:=H9.out.q.cell 8 rfl
          have q9:=H9.out.q.cell 9 rfl
          have q10:=H9.out.q.cell 10 rfl
          have lq:=H9.out.q.lt
          have fq0:=H9.out.q.frozen 0
          have fq1:=H9.out.q.frozen 1
          have fq2:=H9.out.q.frozen 2
          have fq3:=H9.out.q.frozen 3
          have fq4:=H9.out.q.frozen 4
          have fq5:=H9.out.q.frozen 5
          have fq6:=H9.out.q.frozen 6
          have fq7:=H9.out.q.frozen 7
          have fq8:=H9.out.q.frozen 8
          have fq9:=H9.out.q.frozen 9
          have fq10:=H9.out.q.frozen 10
          have z0:=H9.out.z.cell 0 rfl
          have z1:=H9.out.z.cell 1 rfl
          have z2:=H9.out.z.cell 2 rfl
          have z3:=H9.out.z.cell 3 rfl
          have z4:=H9.out.z.cell 4 rfl
          have z5:=H9.out.z.cell 5 rfl
          have z6:=H9.out.z.cell 6 rfl
          have z7:=H9.out.z.cell 7 rfl
          have z8:=H9.out.z.cell 8 rfl
          have z9:=H9.out.z.cell 9 rfl
          have z10:=H9.out.z.cell 10 rfl
          have fz0:=H9.out.z.frozen 0
          have fz1:=H9.out.z.frozen 1
          have fz2:=H9.out.z.frozen 2
          have fz3:=H9.out.z.frozen 3
          have fz4:=H9.out.z.frozen 4
          have fz5:=H9.out.z.frozen 5
          have fz6:=H9.out.z.frozen 6
          have fz7:=H9.out.z.frozen 7
          have fz8:=H9.out.z.frozen 8
          have fz9:=H9.out.z.frozen 9
          have fz10:=H9.out.z.frozen 10
          have lz:=H9.out.z.lt
          go_wp2_with fail
          refine forgetW (fun WF=>RingAt W B (t+15) WF∧Box WF (W.heap.size+1+1) #[.int .i64 2,.int .i64 st,.int .i64 ct,.int .i64 tick,.int .i64 0,.int .i64 dy,.int .i64 e2,.int .i64 FA,.int .i64 wi,.int .i64 co,.bool (zz==0)] 50) (OfS.res (H9.out.set NQ 6 (.int .i64 e2)) _ _ _ _ _ _ _ _ _ _ _ (by omega) rfl) ?_
          clear q0 q1 q2 q3 q4 q5 q6 q7 q8 q9 q10 lq fq0 fq1 fq2 fq3 fq4 fq5 fq6 fq7 fq8 fq9 fq10 z0 z1 z2 z3 z4 z5 z6 z7 z8 z9 z10 fz0 fz1 fz2 fz3 fz4 fz5 fz6 fz7 fz8 fz9 fz10 lz
          rintro WF ⟨hRF,hbF⟩
          have z0:=hbF.cell 0 rfl
          have z1:=hbF.cell 1 rfl
          have z2:=hbF.cell 2 rfl
          have z3:=hbF.cell 3 rfl
          have z4:=hbF.cell 4 rfl
          have z5:=hbF.cell 5 rfl
          have z6:=hbF.cell 6 rfl
          have z7:=hbF.cell 7 rfl
          have z8:=hbF.cell 8 rfl
          have z9:=hbF.cell 9 rfl
          have z10:=hbF.cell 10 rfl
          exact bodyPost_ret (v:=.agg #[.int .i64 2,.int .i64 st,.int .i64 ct,.int .i64 tick,.int .i64 0,.int .i64 dy,.int .i64 e2,.int .i64 FA,.int .i64 wi,.int .i64 co,.bool (zz==0)]) (by simp [results,Tryz.results41,go_sem,z0,z1,z2,z3,z4,z5,z6,z7,z8,z9,z10]) rfl (ring_at_out hRF (by omega) ⟨⟨_,_,_,_,_,_,_,_,_,_,_⟩,offE_mk HS0.out (by omega) k0 HF.out.1 HF.out.2.1 ⟨⟨by omega,by omega⟩,⟨by omega,by omega⟩,by omega⟩ ⟨by omega,by omega⟩ ⟨FA0.1,by omega⟩ ⟨by omega,by omega⟩ ⟨by omega,by omega⟩,rfl,FA0.2,rfl⟩)
        · have hk3:¬ 1+k=2:=by omega
          have q0:=H7.out.q.cell 0 rfl
          have q1:=H7.out.q.cell 1 rfl
          have q2:=H7.out.q.cell 2 rfl
          have q3:=H7.out.q.cell 3 rfl
          have q4:=H7.out.q.cell 4 rfl
          have q5:=H7.out.q.cell 5 rfl
          have q6:=H7.out.q.cell 6 rfl
          have q7:=H7.out.q.cell 7 rfl
          have q8:=H7.out.q.cell 8 rfl
          have q9:=H7.out.q.cell 9 rfl
          have q10:=H7.out.q.cell 10 rfl
          have lq:=H7.out.q.lt
          have fq0:=H7.out.q.frozen 0
          have fq1:=H7.out.q.frozen 1
          have fq2:=H7.out.q.frozen 2
          have fq3:=H7.out.q.frozen 3
          have fq4:=H7.out.q.frozen 4
          have fq5:=H7.out.q.frozen 5
          have fq6:=H7.out.q.frozen 6
          have fq7:=H7.out.q.frozen 7
          have fq8:=H7.out.q.frozen 8
          have fq9:=H7.out.q.frozen 9
          have fq10:=H7.out.q.frozen 10
          have z0:=H7.out.z.cell 0 rfl
          have z1:=H7.out.z.cell 1 rfl
          have z2:=H7.out.z.cell 2 rfl
          have z3:=H7.out.z.cell 3 rfl
          have z4:=H7.out.z.cell 4 rfl
          have z5:=H7.out.z.cell 5 rfl
          have z6:=H7.out.z.cell 6 rfl
          have z7:=H7.out.z.cell 7 rfl
          have z8:=H7.out.z.cell 8 rfl
          have z9:=H7.out.z.cell 9 rfl
          have z10:=H7.out.z.cell 10 rfl
          have fz0:=H7.out.z.frozen 0
          have fz1:=H7.out.z.frozen 1
          have fz2:=H7.out.z.frozen 2
          have fz3:=H7.out.z.frozen 3
          have fz4:=H7.out.z.frozen 4
          have fz5:=H7.out.z.frozen 5
          have fz6:=H7.out.z.frozen 6
          have fz7:=H7.out.z.frozen 7
          have fz8:=H7.out.z.frozen 8
          have fz9:=H7.out.z.frozen 9
          have fz10:=H7.out.z.frozen 10
          have lz:=H7.out.z.lt
          go_wp2_with fail
          refine forgetW (fun WF=>RingAt W B (t+15) WF∧Box WF (W.heap.size+1+1) #[.int .i64 (1+k),.int .i64 st,.int .i64 ct,.int .i64 tick,.int .i64 0,.int .i64 dy,.int .i64 (er / 4),.int .i64 FA,.int .i64 wi,.int .i64 co,.bool (zz==0)] 50) (OfS.res (((H7.out.set NQ 4 (.int .i64 0)).set NQ 5 (.int .i64 dy)).set NQ 8 (.int .i64 wi)) _ _ _ _ _ _ _ _ _ _ _ (by omega) rfl) ?_
          clear q0 q1 q2 q3 q4 q5 q6 q7 q8 q9 q10 lq fq0 fq1 fq2 fq3 fq4 fq5 fq6 fq7 fq8 fq9 fq10 z0 z1 z2 z3 z4 z5 z6 z7 z8 z9 z10 fz0 fz1 fz2 fz3 fz4 fz5 fz6 fz7 fz8 fz9 fz10 lz
          rintro WF ⟨hRF,hbF⟩
          have z0:=hbF.cell 0 rfl
          have z1:=hbF.cell 1 rfl
          have z2:=hbF.cell 2 rfl
          have z3:=hbF.cell 3 rfl
          have z4:=hbF.cell 4 rfl
          have z5:=hbF.cell 5 rfl
          have z6:=hbF.cell 6 rfl
          have z7:=hbF.cell 7 rfl
          have z8:=hbF.cell 8 rfl
          have z9:=hbF.cell 9 rfl
          have z10:=hbF.cell 10 rfl
          exact bodyPost_ret (v:=.agg #[.int .i64 (1+k),.int .i64 st,.int .i64 ct,.int .i64 tick,.int .i64 0,.int .i64 dy,.int .i64 (er / 4),.int .i64 FA,.int .i64 wi,.int .i64 co,.bool (zz==0)]) (by simp [results,Tryz.results41,go_sem,z0,z1,z2,z3,z4,z5,z6,z7,z8,z9,z10]) rfl (ring_at_out hRF (by omega) ⟨⟨_,_,_,_,_,_,_,_,_,_,_⟩,offE_mk HS0.out (by omega) k0 HF.out.1 HF.out.2.1 ⟨⟨by omega,by omega⟩,⟨by omega,by omega⟩,by omega⟩ HF.out.2.2 ⟨FA0.1,by omega⟩ ⟨by omega,by omega⟩ ⟨by omega,by omega⟩,rfl,FA0.2,rfl⟩)
theorem offerof_at {w:World} {sl:Value} (hN:Nums w sl) {B:Nat} (hB:w.heap.size≤B) {K:Nat→Prop} (hK:∀ b,K b→b≠B) {a sa ca:Option Addr} {n c sn sc cn cc:Nat} {s:SkyD} {tick px py:Int} (hs:skyE s=0) (hn1:0<sn) (hn2:0<cn) (k0:0≤tick∧tick≤1000000) (hp:(-32000000≤px∧px≤32000000) ∧ -32000000≤py∧py≤32000000)
 {t:Int} {W V:World} (hu:Up w W) (hb:Box W B #[sl,.int .i64 t] 98) {m:Int} (hW:RingAt W B m V) (hL:SkyL K V a n c sa sn sc ca cn cc s) (hm:m+15≤100000) :
 Calls Tryz.prog 41 #[.pointer (some ⟨B,0,none⟩),.agg #[.slice a n c,.int .i64 s.home,.slice sa sn sc,.slice ca cn cc],.int .i64 tick,.agg #[.int .i64 (px),.int .i64 (py)]] V fun e W'=>∃ v,e=.returned v∧ROffer s tick v∧RingAt W B (m+15) W'∧V.grownBy W' (some B):=by
 obtain ⟨t1,h0,h1,hbW⟩:=hW.box hb
 refine (offerof_any hN hB hK hs hn1 hn2 k0 hp t1 V (hW.up hu hB) hbW hL h0 (by omega)).mono ?_
 rintro e W' ⟨v,t',p',he,h2,h3,h4,rfl⟩
 exact ⟨v,he,h2,hW.called hb.lt h3 (by omega) p',grown_up (grown_set (grown_refl _ _) _ _) ((Up.refl _).ext _)⟩
end Go.Proofs.YteafglginnonnaaGreat
/- The helpers of the statements of layer 6: a place near another one, an area around it. Conditions: bounded numbers. -/
namespace Go.Proofs.YteafglginnonnaaGreat
open Go.RowKit
theorem xarea6_any (a b c d:Int) (w:World):Gives Tryz.prog 20 #[.int .i64 a,.int .i64 b,.int .i64 c,.int .i64 d] w (.agg #[.int .i64 (a),.int .i64 (b),.int .i64 (c),.int .i64 (d)]):=by
 (unfold Gives;go_enter Tryz.func20,Tryz.ntmps20)
 go_wp2
 all_goals (refine bodyPost_give (by repeat (first|with_reducible (first|exact Up.refl _|apply Up.plus)|apply Up.ext|apply Up.alloc|apply Up.drew|refine Up.setCell ?_ (by simp;try omega) _)) rfl ⟨_,(by simp [results,Tryz.results20,go_sem];rfl),?_⟩)
 all_goals rfl
end Go.Proofs.YteafglginnonnaaGreat
/- Package watch: the view of an area, the values of a place. Conditions: what lies in memory. -/
namespace Go.Proofs.YteafglginnonnaaGreat
open Go.RowKit Go.Shelf
set_option maxRecDepth 100000 in
set_option maxHeartbeats 4000000 in
theorem wView_any {K:Nat→Prop} {w:World} {a sa ca:Option Addr} {n c sn sc cn cc:Nat} {s:SkyD} (hL:SkyL K w a n c sa sn sc ca cn cc s) (o:OffD) (x:Ar4):Gives Tryz.prog 21 #[.agg #[.slice a n c,.int .i64 s.home,.slice sa sn sc,.slice ca cn cc],.agg (offA o),.agg #[.int .i64 (x.1),.int .i64 (x.2.1),.int .i64 (x.2.2.1),.int .i64 (x.2.2.2)]] w (.tuple #[.agg (viewA (viewV s o x).1),.int .i64 (viewV s o x).2]):=by
 have HC:=hide (fun W (hu:Up w W)=>wcheck_any (hL.up hu).b hL.h (hL.up hu).st (hL.up hu).ca o)
 have HP:=hide (fun W=>warea_any x W)
 unfold viewV
 by_cases he:offE s o=0
 rotate_left
 · rw [if_neg he]
   have heb:(offE s o != 0)=true:=by simpa using he
   generalize offE s o=e at *
   generalize s.home=home at *
   clear hL he HP
   obtain ⟨x0,x1,y0,y1⟩:=x
   dsimp only
   (unfold Gives;go_enter Tryz.func21,Tryz.ntmps21)
   go_wp2_with fail
   go_at_call 44
   refine forgetK (fun V=>Up w V∧Box V w.heap.size #[.slice a n c,.int .i64 home,.slice sa sn sc,.slice ca cn cc] 29∧Box V (w.heap.size+1) (offA o) 50∧Box V (w.heap.size+1+1) #[.int .i64 (x0),.int .i64 (x1),.int .i64 (y0),.int .i64 (y1)] 61∧Box V (w.heap.size+1+1+1) #[.bool false,.bool false,.int .i64 0,.int .i64 0] 64) ⟨(by repeat (first|with_reducible (first|exact Up.refl _|apply Up.plus)|apply Up.ext|apply Up.alloc|apply Up.drew|refine Up.setCell ?_ (by simp;try omega) _)),(by repeat (first|exact Box.mk rfl|(refine Box.mk ?_;simp;done)|apply Box.ext|apply Box.drew|apply Box.alloc|apply Box.two1|refine Box.other ?_ (by omega) _ _)),(by repeat (first|exact Box.mk rfl|(refine Box.mk ?_;simp;done)|apply Box.ext|apply Box.drew|apply Box.alloc|apply Box.two1|refine Box.other ?_ (by omega) _ _)),(by repeat (first|exact Box.mk rfl|(refine Box.mk ?_;simp;done)|apply Box.ext|apply Box.drew|apply Box.alloc|apply Box.two1|refine Box.other ?_ (by omega) _ _)),(by repeat (first|exact Box.mk rfl|(refine Box.mk ?_;simp;done)|apply Box.ext|apply Box.drew|apply Box.alloc|apply Box.two1|refine Box.other ?_ (by omega) _ _))⟩ ?_
   rintro V ⟨hu,bs,bo,bp,bz⟩
   have HB:=hide (And.intro hu (And.intro bs (And.intro bo (And.intro bp bz))))
   clear hu bs bo bp bz
   refine (HC.out _ HB.out.1).mono ?_
   intro p1
   have s0:=(HB.out.2.1).cell 0 rfl
   have s1:=(HB.out.2.1).cell 1 rfl
   have s2:=(HB.out.2.1).cell 2 rfl
   have s3:=(HB.out.2.1).cell 3 rfl
   have ls:=(HB.out.2.1).lt
   have f0:=(HB.out.2.2.1).cell 0 rfl
   have f1:=(HB.out.2.2.1).cell 1 rfl
   have f2:=(HB.out.2.2.1).cell 2 rfl
   have f3:=(HB.out.2.2.1).cell 3 rfl
   have f4:=(HB.out.2.2.1).cell 4 rfl
   have f5:=(HB.out.2.2.1).cell 5 rfl
   have f6:=(HB.out.2.2.1).cell 6 rfl
   have f7:=(HB.out.2.2.1).cell 7 rfl
   have f8:=(HB.out.2.2.1).cell 8 rfl
   have f9:=(HB.out.2.2.1).cell 9 rfl
   have f10:=(HB.out.2.2.1).cell 10 rfl
   have lf:=(HB.out.2.2.1).lt
   have g0:=(HB.out.2.2.2.1).cell 0 rfl
   have g1:=(HB.out.2.2.2.1).cell 1 rfl
   have g2:=(HB.out.2.2.2.1).cell 2 rfl
   have g3:=(HB.out.2.2.2.1).cell 3 rfl
   have lg:=(HB.out.2.2.2.1).lt
   have z0:=(HB.out.2.2.2.2).cell 0 rfl
   have z1:=(HB.out.2.2.2.2).cell 1 rfl
   have z2:=(HB.out.2.2.2.2).cell 2 rfl
   have z3:=(HB.out.2.2.2.2).cell 3 rfl
   have lz:=(HB.out.2.2.2.2).lt
   have fz0:=(HB.out.2.2.2.2).frozen 0
   have fz1:=(HB.out.2.2.2.2).frozen 1
   have fz2:=(HB.out.2.2.2.2).frozen 2
   have fz3:=(HB.out.2.2.2.2).frozen 3
   go_wp2_with fail
   refine forgetW (fun WF=>Up w WF∧Box WF (w.heap.size+1+1+1) #[.bool false,.bool false,.int .i64 0,.int .i64 0] 64) ⟨(by with_reducible repeat (first|exact HB.out.1|exact Up.refl _|apply Up.ext|apply Up.alloc|apply Up.drew|refine Up.setCell ?_ (by simp only;omega) _)),?_⟩ ?_
   · exact (by (repeat (first|with_reducible apply Box.ext|with_reducible apply Box.alloc|with_reducible apply Box.drew));exact ((((HB.out.2.2.2.2.set 0 (.bool false)).set 1 (.bool false)).set 2 (.int .i64 0)).set 3 (.int .i64 0)))
   rintro WF ⟨huF,hbF⟩
   have w0:=hbF.cell 0 rfl
   have w1:=hbF.cell 1 rfl
   have w2:=hbF.cell 2 rfl
   have w3:=hbF.cell 3 rfl
   (refine bodyPost_give huF rfl ⟨_,(by simp [results,Tryz.results21,go_sem,w0,w1,w2,w3];rfl),?_⟩)
   rfl
 have HO:=hide (fun W (hu:Up w W)=>wof_any (hL.up hu).b hL.h (hL.up hu).st (hL.up hu).ca he)
 have hk:=kbd_of he
 rw [if_pos he]
 rw [he] at HC
 by_cases hA:areaB x=true
 rotate_left
 · rw [if_neg hA]
   rw [show areaB x=false by simpa using hA] at HP
   generalize s.home=home at *
   clear hL he hk hA HO
   obtain ⟨x0,x1,y0,y1⟩:=x
   dsimp only at *
   (unfold Gives;go_enter Tryz.func21,Tryz.ntmps21)
   go_wp2_with fail
   go_at_call 44
   refine forgetK (fun V=>Up w V∧Box V w.heap.size #[.slice a n c,.int .i64 home,.slice sa sn sc,.slice ca cn cc] 29∧Box V (w.heap.size+1) (offA o) 50∧Box V (w.heap.size+1+1) #[.int .i64 (x0),.int .i64 (x1),.int .i64 (y0),.int .i64 (y1)] 61∧Box V (w.heap.size+1+1+1) #[.bool false,.bool false,.int .i64 0,.int .i64 0] 64) ⟨(by repeat (first|with_reducible (first|exact Up.refl _|apply Up.plus)|apply Up.ext|apply Up.alloc|apply Up.drew|refine Up.setCell ?_ (by simp;try omega) _)),(by repeat (first|exact Box.mk rfl|(refine Box.mk ?_;simp;done)|apply Box.ext|apply Box.drew|apply Box.alloc|apply Box.two1|refine Box.other ?_ (by omega) _ _)),(by repeat (first|exact Box.mk rfl|(refine Box.mk ?_;simp;done)|apply Box.ext|apply Box.drew|apply Box.alloc|apply Box.two1|refine Box.other ?_ (by omega) _ _)),(by repeat (first|exact Box.mk rfl|(refine Box.mk ?_;simp;done)|apply Box.ext|apply Box.drew|apply Box.alloc|apply Box.two1|refine Box.other ?_ (by omega) _ _)),(by repeat (first|exact Box.mk rfl|(refine Box.mk ?_;simp;done)|apply Box.ext|apply Box.drew|apply Box.alloc|apply Box.two1|refine Box.other ?_ (by omega) _ _))⟩ ?_
   rintro V ⟨hu,bs,bo,bp,bz⟩
   have HB:=hide (And.intro hu (And.intro bs (And.intro bo (And.intro bp bz))))
   clear hu bs bo bp bz
   refine (HC.out _ HB.out.1).mono ?_
   intro p1
   have s0:=(HB.out.2.1).cell 0 rfl
   have s1:=(HB.out.2.1).cell 1 rfl
   have s2:=(HB.out.2.1).cell 2 rfl
   have s3:=(HB.out.2.1).cell 3 rfl
   have ls:=(HB.out.2.1).lt
   have f0:=(HB.out.2.2.1).cell 0 rfl
   have f1:=(HB.out.2.2.1).cell 1 rfl
   have f2:=(HB.out.2.2.1).cell 2 rfl
   have f3:=(HB.out.2.2.1).cell 3 rfl
   have f4:=(HB.out.2.2.1).cell 4 rfl
   have f5:=(HB.out.2.2.1).cell 5 rfl
   have f6:=(HB.out.2.2.1).cell 6 rfl
   have f7:=(HB.out.2.2.1).cell 7 rfl
   have f8:=(HB.out.2.2.1).cell 8 rfl
   have f9:=(HB.out.2.2.1).cell 9 rfl
   have f10:=(HB.out.2.2.1).cell 10 rfl
   have lf:=(HB.out.2.2.1).lt
   have g0:=(HB.out.2.2.2.1).cell 0 rfl
   have g1:=(HB.out.2.2.2.1).cell 1 rfl
   have g2:=(HB.out.2.2.2.1).cell 2 rfl
   have g3:=(HB.out.2.2.2.1).cell 3 rfl
   have lg:=(HB.out.2.2.2.1).lt
   have z0:=(HB.out.2.2.2.2).cell 0 rfl
   have z1:=(HB.out.2.2.2.2).cell 1 rfl
   have z2:=(HB.out.2.2.2.2).cell 2 rfl
   have z3:=(HB.out.2.2.2.2).cell 3 rfl
   have lz:=(HB.out.2.2.2.2).lt
   have fz0:=(HB.out.2.2.2.2).frozen 0
   have fz1:=(HB.out.2.2.2.2).frozen 1
   have fz2:=(HB.out.2.2.2.2).frozen 2
   have fz3:=(HB.out.2.2.2.2).frozen 3
   go_wp2_with fail
   go_at_call 51
   refine (HP.out _).mono ?_
   intro p2
   go_wp2_with fail
   refine forgetW (fun WF=>Up w WF∧Box WF (w.heap.size+1+1+1) #[.bool false,.bool false,.int .i64 0,.int .i64 0] 64) ⟨(by with_reducible repeat (first|exact HB.out.1|exact Up.refl _|apply Up.ext|apply Up.alloc|apply Up.drew|refine Up.setCell ?_ (by simp only;omega) _)),?_⟩ ?_
   · exact (by (repeat (first|with_reducible apply Box.ext|with_reducible apply Box.alloc|with_reducible apply Box.drew));exact ((((HB.out.2.2.2.2.set 0 (.bool false)).set 1 (.bool false)).set 2 (.int .i64 0)).set 3 (.int .i64 0)))
   rintro WF ⟨huF,hbF⟩
   have w0:=hbF.cell 0 rfl
   have w1:=hbF.cell 1 rfl
   have w2:=hbF.cell 2 rfl
   have w3:=hbF.cell 3 rfl
   (refine bodyPost_give huF rfl ⟨_,(by simp [results,Tryz.results21,go_sem,w0,w1,w2,w3];rfl),?_⟩)
   rfl
 · rw [if_pos hA]
   rw [hA] at HP
   have HV:=hide (fun W=>wview_k hk ((areaB_iff x).1 hA) W)
   generalize viewK (kndOf s o) x=R at *
   generalize kndV (kndOf s o)=KV at *
   generalize s.home=home at *
   clear hL he hk hA
   obtain ⟨x0,x1,y0,y1⟩:=x
   dsimp only at *
   (unfold Gives;go_enter Tryz.func21,Tryz.ntmps21)
   go_wp2_with fail
   go_at_call 44
   refine forgetK (fun V=>Up w V∧Box V w.heap.size #[.slice a n c,.int .i64 home,.slice sa sn sc,.slice ca cn cc] 29∧Box V (w.heap.size+1) (offA o) 50∧Box V (w.heap.size+1+1) #[.int .i64 (x0),.int .i64 (x1),.int .i64 (y0),.int .i64 (y1)] 61∧Box V (w.heap.size+1+1+1) #[.bool false,.bool false,.int .i64 0,.int .i64 0] 64) ⟨(by repeat (first|with_reducible (first|exact Up.refl _|apply Up.plus)|apply Up.ext|apply Up.alloc|apply Up.drew|refine Up.setCell ?_ (by simp;try omega) _)),(by repeat (first|exact Box.mk rfl|(refine Box.mk ?_;simp;done)|apply Box.ext|apply Box.drew|apply Box.alloc|apply Box.two1|refine Box.other ?_ (by omega) _ _)),(by repeat (first|exact Box.mk rfl|(refine Box.mk ?_;simp;done)|apply Box.ext|apply Box.drew|apply Box.alloc|apply Box.two1|refine Box.other ?_ (by omega) _ _)),(by repeat (first|exact Box.mk rfl|(refine Box.mk ?_;simp;done)|apply Box.ext|apply Box.drew|apply Box.alloc|apply Box.two1|refine Box.other ?_ (by omega) _ _)),(by repeat (first|exact Box.mk rfl|(refine Box.mk ?_;simp;done)|apply Box.ext|apply Box.drew|apply Box.alloc|apply Box.two1|refine Box.other ?_ (by omega) _ _))⟩ ?_
   rintro V ⟨hu,bs,bo,bp,bz⟩
   have HB:=hide (And.intro hu (And.intro bs (And.intro bo (And.intro bp bz))))
   clear hu bs bo bp bz
   refine (HC.out _ HB.out.1).mono ?_
   intro p1
   have s0:=(HB.out.2.1).cell 0 rfl
   have s1:=(HB.out.2.1).cell 1 rfl
   have s2:=(HB.out.2.1).cell 2 rfl
   have s3:=(HB.out.2.1).cell 3 rfl
   have ls:=(HB.out.2.1).lt
   have f0:=(HB.out.2.2.1).cell 0 rfl
   have f1:=(HB.out.2.2.1).cell 1 rfl
   have f2:=(HB.out.2.2.1).cell 2 rfl
   have f3:=(HB.out.2.2.1).cell 3 rfl
   have f4:=(HB.out.2.2.1).cell 4 rfl
   have f5:=(HB.out.2.2.1).cell 5 rfl
   have f6:=(HB.out.2.2.1).cell 6 rfl
   have f7:=(HB.out.2.2.1).cell 7 rfl
   have f8:=(HB.out.2.2.1).cell 8 rfl
   have f9:=(HB.out.2.2.1).cell 9 rfl
   have f10:=(HB.out.2.2.1).cell 10 rfl
   have lf:=(HB.out.2.2.1).lt
   have g0:=(HB.out.2.2.2.1).cell 0 rfl
   have g1:=(HB.out.2.2.2.1).cell 1 rfl
   have g2:=(HB.out.2.2.2.1).cell 2 rfl
   have g3:=(HB.out.2.2.2.1).cell 3 rfl
   have lg:=(HB.out.2.2.2.1).lt
   have z0:=(HB.out.2.2.2.2).cell 0 rfl
   have z1:=(HB.out.2.2.2.2).cell 1 rfl
   have z2:=(HB.out.2.2.2.2).cell 2 rfl
   have z3:=(HB.out.2.2.2.2).cell 3 rfl
   have lz:=(HB.out.2.2.2.2).lt
   have fz0:=(HB.out.2.2.2.2).frozen 0
   have fz1:=(HB.out.2.2.2.2).frozen 1
   have fz2:=(HB.out.2.2.2.2).frozen 2
   have fz3:=(HB.out.2.2.2.2).frozen 3
   go_wp2_with fail
   go_at_call 51
   refine (HP.out _).mono ?_
   intro p2
   go_wp2_with fail
   refine forgetW (fun V=>Up w V∧Box V w.heap.size #[.slice a n c,.int .i64 home,.slice sa sn sc,.slice ca cn cc] 29∧Box V (w.heap.size+1) (offA o) 50∧Box V (w.heap.size+1+1) #[.int .i64 (x0),.int .i64 (x1),.int .i64 (y0),.int .i64 (y1)] 61∧Box V (w.heap.size+1+1+1) #[.bool false,.bool false,.int .i64 0,.int .i64 0] 64) ⟨(by with_reducible repeat (first|exact HB.out.1|exact Up.refl _|apply Up.ext|apply Up.alloc|apply Up.drew|refine Up.setCell ?_ (by simp only;omega) _)),(by with_reducible repeat (first|exact HB.out.2.1|apply Box.ext|apply Box.alloc|apply Box.drew|refine Box.other ?_ (by omega) _ _)),(by with_reducible repeat (first|exact HB.out.2.2.1|apply Box.ext|apply Box.alloc|apply Box.drew|refine Box.other ?_ (by omega) _ _)),(by with_reducible repeat (first|exact HB.out.2.2.2.1|apply Box.ext|apply Box.alloc|apply Box.drew|refine Box.other ?_ (by omega) _ _)),(by with_reducible repeat (first|exact HB.out.2.2.2.2|apply Box.ext|apply Box.alloc|apply Box.drew|refine Box.other ?_ (by omega) _ _))⟩ ?_
   clear HB s0 s1 s2 s3 ls f0 f1 f2 f3 f4 f5 f6 f7 f8 f9 f10 lf g0 g1 g2 g3 lg z0 z1 z2 z3 lz fz0 fz1 fz2 fz3
   rintro V ⟨hu,bs,bo,bp,bz⟩
   have HB:=hide (And.intro hu (And.intro bs (And.intro bo (And.intro bp bz))))
   clear hu bs bo bp bz
   have s0:=(HB.out.2.1).cell 0 rfl
   have s1:=(HB.out.2.1).cell 1 rfl
   have s2:=(HB.out.2.1).cell 2 rfl
   have s3:=(HB.out.2.1).cell 3 rfl
   have ls:=(HB.out.2.1).lt
   have f0:=(HB.out.2.2.1).cell 0 rfl
   have f1:=(HB.out.2.2.1).cell 1 rfl
   have f2:=(HB.out.2.2.1).cell 2 rfl
   have f3:=(HB.out.2.2.1).cell 3 rfl
   have f4:=(HB.out.2.2.1).cell 4 rfl
   have f5:=(HB.out.2.2.1).cell 5 rfl
   have f6:=(HB.out.2.2.1).cell 6 rfl
   have f7:=(HB.out.2.2.1).cell 7 rfl
   have f8:=(HB.out.2.2.1).cell 8 rfl
   have f9:=(HB.out.2.2.1).cell 9 rfl
   have f10:=(HB.out.2.2.1).cell 10 rfl
   have lf:=(HB.out.2.2.1).lt
   have g0:=(HB.out.2.2.2.1).cell 0 rfl
   have g1:=(HB.out.2.2.2.1).cell 1 rfl
   have g2:=(HB.out.2.2.2.1).cell 2 rfl
   have g3:=(HB.out.2.2.2.1).cell 3 rfl
   have lg:=(HB.out.2.2.2.1).lt
   have z0:=(HB.out.2.2.2.2).cell 0 rfl
   have z1:=(HB.out.2.2.2.2).cell 1 rfl
   have z2:=(HB.out.2.2.2.2).cell 2 rfl
   have z3:=(HB.out.2.2.2.2).cell 3 rfl
   have lz:=(HB.out.2.2.2.2).lt
   have fz0:=(HB.out.2.2.2.2).frozen 0
   have fz1:=(HB.out.2.2.2.2).frozen 1
   have fz2:=(HB.out.2.2.2.2).frozen 2
   have fz3:=(HB.out.2.2.2.2).frozen 3
   ((first | with_reducible refine wp_region_ext_tail2 2 (by kernel_rfl) (by kernel_rfl) ?_ | refine wp_region_ext_tail 2 (by kernel_rfl) (by kernel_rfl) ?_);simp only [List.length_cons,List.length_nil,Nat.reduceAdd,Nat.reduceSub,List.take_succ_cons,List.take_zero,List.drop_succ_cons,List.drop_zero];(repeat (go_big_quiet_step ((first | (go_at_call 50;with_reducible exact Gives.inRegion (HO.out _ (HB.out.1.ext _))) | (go_at_call 52;with_reducible exact Gives.inRegion (HV.out _))))));refine wpQuiet_nil ?_;intro _ hw';obtain ⟨_,hw''⟩:=hw';subst hw'')
   go_wp2_with fail
   refine forgetW (fun WF=>Up w WF∧Box WF (w.heap.size+1+1+1) (viewA R) 64) ⟨(by with_reducible repeat (first|exact HB.out.1|exact Up.refl _|apply Up.ext|apply Up.alloc|apply Up.drew|refine Up.setCell ?_ (by simp only;omega) _)),?_⟩ ?_
   · exact (by (repeat (first|with_reducible apply Box.ext|with_reducible apply Box.alloc|with_reducible apply Box.drew));exact ((((HB.out.2.2.2.2.set 0 (.bool R.1)).set 1 (.bool R.2.1)).set 2 (.int .i64 R.2.2.1)).set 3 (.int .i64 R.2.2.2)))
   rintro WF ⟨huF,hbF⟩
   have w0:=hbF.cell 0 rfl
   have w1:=hbF.cell 1 rfl
   have w2:=hbF.cell 2 rfl
   have w3:=hbF.cell 3 rfl
   (refine bodyPost_give huF rfl ⟨_,(by simp [results,Tryz.results21,go_sem,w0,w1,w2,w3];rfl),?_⟩)
   rfl
end Go.Proofs.YteafglginnonnaaGreat
/- Package watch: the values of a place. Conditions: what lies in memory. -/
namespace Go.Proofs.YteafglginnonnaaGreat
open Go.RowKit Go.Shelf
theorem fieldV_true {s:SkyD} {o:OffD} {p:Int×Int} (h:fieldV s o p=true):offE s o=0∧PBd p∧fieldK (kndOf s o) p=true:=by
 unfold fieldV at h
 simp only [Bool.and_eq_true,decide_eq_true_eq] at h
 exact ⟨h.1,(nearV_iff _ _).1 h.2.1,h.2.2⟩
theorem field_front {k:KndD} {p:Int×Int} (h:fieldK k p=true) (hs:k.sc=true):0<doK k p:=by
 unfold fieldK at h
 simp only [Bool.and_eq_true,Bool.or_eq_true,Bool.not_eq_true'] at h
 have:=h.2.resolve_left (by simp [hs])
 unfold withinK at this
 simp only [Bool.and_eq_true,decide_eq_true_eq] at this
 exact this.1
set_option maxRecDepth 100000 in
set_option maxHeartbeats 4000000 in
theorem wReads_any {K:Nat→Prop} {w:World} {a sa ca:Option Addr} {n c sn sc cn cc:Nat} {s:SkyD} (hL:SkyL K w a n c sa sn sc ca cn cc s) (o:OffD) (p:Int×Int):Gives Tryz.prog 19 #[.agg #[.slice a n c,.int .i64 s.home,.slice sa sn sc,.slice ca cn cc],.agg (offA o),.agg #[.int .i64 (p.1),.int .i64 (p.2)]] w (.tuple #[.agg #[.int .i64 ((readsV s o p).1.1),.int .i64 ((readsV s o p).1.2)],.bool (readsV s o p).2]):=by
 have HF:=hide (fun W (hu:Up w W)=>wField_any (hL.up hu) o p)
 unfold readsV
 by_cases hF:fieldV s o p=true
 rotate_left
 · rw [if_neg (by simp [hF])]
   rw [show fieldV s o p=false by simpa using hF] at HF
   generalize s.home=home at *
   clear hL hF
   obtain ⟨p1,p2⟩:=p
   dsimp only at *
   (unfold Gives;go_enter Tryz.func19,Tryz.ntmps19)
   go_wp2_with fail
   go_at_call 18
   refine forgetK (fun V=>Up w V∧Box V w.heap.size #[.slice a n c,.int .i64 home,.slice sa sn sc,.slice ca cn cc] 29∧Box V (w.heap.size+1) (offA o) 50∧Box V (w.heap.size+1+1) #[.int .i64 (p1),.int .i64 (p2)] 48∧Box V (w.heap.size+1+1+1) #[.int .i64 (0),.int .i64 (0)] 31) ⟨(by repeat (first|with_reducible (first|exact Up.refl _|apply Up.plus)|apply Up.ext|apply Up.alloc|apply Up.drew|refine Up.setCell ?_ (by simp;try omega) _)),(by repeat (first|exact Box.mk rfl|(refine Box.mk ?_;simp;done)|apply Box.ext|apply Box.drew|apply Box.alloc|apply Box.two1|refine Box.other ?_ (by omega) _ _)),(by repeat (first|exact Box.mk rfl|(refine Box.mk ?_;simp;done)|apply Box.ext|apply Box.drew|apply Box.alloc|apply Box.two1|refine Box.other ?_ (by omega) _ _)),(by repeat (first|exact Box.mk rfl|(refine Box.mk ?_;simp;done)|apply Box.ext|apply Box.drew|apply Box.alloc|apply Box.two1|refine Box.other ?_ (by omega) _ _)),(by repeat (first|exact Box.mk rfl|(refine Box.mk ?_;simp;done)|apply Box.ext|apply Box.drew|apply Box.alloc|apply Box.two1|refine Box.other ?_ (by omega) _ _))⟩ ?_
   rintro V ⟨hu,bs,bo,bp,bz⟩
   have HB:=hide (And.intro hu (And.intro bs (And.intro bo (And.intro bp bz))))
   clear hu bs bo bp bz
   refine (HF.out _ HB.out.1).mono ?_
   intro pf
   have s0:=(HB.out.2.1).cell 0 rfl
   have s1:=(HB.out.2.1).cell 1 rfl
   have s2:=(HB.out.2.1).cell 2 rfl
   have s3:=(HB.out.2.1).cell 3 rfl
   have ls:=(HB.out.2.1).lt
   have f0:=(HB.out.2.2.1).cell 0 rfl
   have f1:=(HB.out.2.2.1).cell 1 rfl
   have f2:=(HB.out.2.2.1).cell 2 rfl
   have f3:=(HB.out.2.2.1).cell 3 rfl
   have f4:=(HB.out.2.2.1).cell 4 rfl
   have f5:=(HB.out.2.2.1).cell 5 rfl
   have f6:=(HB.out.2.2.1).cell 6 rfl
   have f7:=(HB.out.2.2.1).cell 7 rfl
   have f8:=(HB.out.2.2.1).cell 8 rfl
   have f9:=(HB.out.2.2.1).cell 9 rfl
   have f10:=(HB.out.2.2.1).cell 10 rfl
   have lf:=(HB.out.2.2.1).lt
   have g0:=(HB.out.2.2.2.1).cell 0 rfl
   have g1:=(HB.out.2.2.2.1).cell 1 rfl
   have lg:=(HB.out.2.2.2.1).lt
   have z0:=(HB.out.2.2.2.2).cell 0 rfl
   have z1:=(HB.out.2.2.2.2).cell 1 rfl
   have lz:=(HB.out.2.2.2.2).lt
   have fz0:=(HB.out.2.2.2.2).frozen 0
   have fz1:=(HB.out.2.2.2.2).frozen 1
   go_wp2_with fail
   refine forgetW (fun WF=>Up w WF∧Box WF (w.heap.size+1+1+1) #[.int .i64 (0),.int .i64 (0)] 31) ⟨(by with_reducible repeat (first|exact HB.out.1|exact Up.refl _|apply Up.ext|apply Up.alloc|apply Up.drew|refine Up.setCell ?_ (by simp only;omega) _)),?_⟩ ?_
   · exact (by (repeat (first|with_reducible apply Box.ext|with_reducible apply Box.alloc|with_reducible apply Box.drew));exact ((HB.out.2.2.2.2.set 0 (.int .i64 0)).set 1 (.int .i64 0)))
   rintro WF ⟨huF,hbF⟩
   have w0:=hbF.cell 0 rfl
   have w1:=hbF.cell 1 rfl
   (refine bodyPost_give huF rfl ⟨_,(by simp [results,Tryz.results19,go_sem,w0,w1];rfl),?_⟩)
   rfl
 rw [hF] at HF
 obtain ⟨he,hpb,hfk⟩:=fieldV_true hF
 have HO:=hide (fun W (hu:Up w W)=>wof_any (hL.up hu).b hL.h (hL.up hu).st (hL.up hu).ca he)
 have hk:=kbd_of he
 simp only [hF,true_and]
 generalize kndOf s o=k at *
 unfold kndV at HO
 cases hs:k.sc
 · rw [if_neg (by simp [hs])] at HO
   have HR:=hide (fun W=>wrreads_any hk hpb hs W)
   have hm:=fun (n:Nat) (w:World)=>(meth_r k n w).2.2.2
   simp only [mReads,theName] at hm
   generalize readsK k p=R at *
   obtain ⟨R1,R2⟩:=R
   generalize s.home=home at *
   clear hL he hk hpb hfk hs hF
   obtain ⟨p1,p2⟩:=p
   dsimp only at *
   have key:∀ (b:Bool),decide (R2<R1)=b→Gives Tryz.prog 19 #[.agg #[.slice a n c,.int .i64 home,.slice sa sn sc,.slice ca cn cc],.agg (offA o),.agg #[.int .i64 (p1),.int .i64 (p2)]] w (if b=true then (.tuple #[.agg #[.int .i64 (0),.int .i64 (0)],.bool false]) else (.tuple #[.agg #[.int .i64 (R1),.int .i64 (R2)],.bool true])):=fun b hb=>by
    cases b
    all_goals
     (unfold Gives;go_enter Tryz.func19,Tryz.ntmps19)
     go_wp2_with fail
     go_at_call 18
     refine forgetK (fun V=>Up w V∧Box V w.heap.size #[.slice a n c,.int .i64 home,.slice sa sn sc,.slice ca cn cc] 29∧Box V (w.heap.size+1) (offA o) 50∧Box V (w.heap.size+1+1) #[.int .i64 (p1),.int .i64 (p2)] 48∧Box V (w.heap.size+1+1+1) #[.int .i64 (0),.int .i64 (0)] 31) ⟨(by repeat (first|with_reducible (first|exact Up.refl _|apply Up.plus)|apply Up.ext|apply Up.alloc|apply Up.drew|refine Up.setCell ?_ (by simp;try omega) _)),(by repeat (first|exact Box.mk rfl|(refine Box.mk ?_;simp;done)|apply Box.ext|apply Box.drew|apply Box.alloc|apply Box.two1|refine Box.other ?_ (by omega) _ _)),(by repeat (first|exact Box.mk rfl|(refine Box.mk ?_;simp;done)|apply Box.ext|apply Box.drew|apply Box.alloc|apply Box.two1|refine Box.other ?_ (by omega) _ _)),(by repeat (first|exact Box.mk rfl|(refine Box.mk ?_;simp;done)|apply Box.ext|apply Box.drew|apply Box.alloc|apply Box.two1|refine Box.other ?_ (by omega) _ _)),(by repeat (first|exact Box.mk rfl|(refine Box.mk ?_;simp;done)|apply Box.ext|apply Box.drew|apply Box.alloc|apply Box.two1|refine Box.other ?_ (by omega) _ _))⟩ ?_
     rintro V ⟨hu,bs,bo,bp,bz⟩
     have HB:=hide (And.intro hu (And.intro bs (And.intro bo (And.intro bp bz))))
     clear hu bs bo bp bz
     refine (HF.out _ HB.out.1).mono ?_
     intro pf
     have s0:=(HB.out.2.1).cell 0 rfl
     have s1:=(HB.out.2.1).cell 1 rfl
     have s2:=(HB.out.2.1).cell 2 rfl
     have s3:=(HB.out.2.1).cell 3 rfl
     have ls:=(HB.out.2.1).lt
     have f0:=(HB.out.2.2.1).cell 0 rfl
     have f1:=(HB.out.2.2.1).cell 1 rfl
     have f2:=(HB.out.2.2.1).cell 2 rfl
     have f3:=(HB.out.2.2.1).cell 3 rfl
     have f4:=(HB.out.2.2.1).cell 4 rfl
     have f5:=(HB.out.2.2.1).cell 5 rfl
     have f6:=(HB.out.2.2.1).cell 6 rfl
     have f7:=(HB.out.2.2.1).cell 7 rfl
     have f8:=(HB.out.2.2.1).cell 8 rfl
     have f9:=(HB.out.2.2.1).cell 9 rfl
     have f10:=(HB.out.2.2.1).cell 10 rfl
     have lf:=(HB.out.2.2.1).lt
     have g0:=(HB.out.2.2.2.1).cell 0 rfl
     have g1:=(HB.out.2.2.2.1).cell 1 rfl
     have lg:=(HB.out.2.2.2.1).lt
     have z0:=(HB.out.2.2.2.2).cell 0 rfl
     have z1:=(HB.out.2.2.2.2).cell 1 rfl
     have lz:=(HB.out.2.2.2.2).lt
     have fz0:=(HB.out.2.2.2.2).frozen 0
     have fz1:=(HB.out.2.2.2.2).frozen 1
     go_wp2_with fail
     refine forgetW (fun V=>Up w V∧Box V w.heap.size #[.slice a n c,.int .i64 home,.slice sa sn sc,.slice ca cn cc] 29∧Box V (w.heap.size+1) (offA o) 50∧Box V (w.heap.size+1+1) #[.int .i64 (p1),.int .i64 (p2)] 48∧Box V (w.heap.size+1+1+1) #[.int .i64 (0),.int .i64 (0)] 31) ⟨(by with_reducible repeat (first|exact HB.out.1|exact Up.refl _|apply Up.ext|apply Up.alloc|apply Up.drew|refine Up.setCell ?_ (by simp only;omega) _)),(by with_reducible repeat (first|exact HB.out.2.1|apply Box.ext|apply Box.alloc|apply Box.drew|refine Box.other ?_ (by omega) _ _)),(by with_reducible repeat (first|exact HB.out.2.2.1|apply Box.ext|apply Box.alloc|apply Box.drew|refine Box.other ?_ (by omega) _ _)),(by with_reducible repeat (first|exact HB.out.2.2.2.1|apply Box.ext|apply Box.alloc|apply Box.drew|refine Box.other ?_ (by omega) _ _)),(by with_reducible repeat (first|exact HB.out.2.2.2.2|apply Box.ext|apply Box.alloc|apply Box.drew|refine Box.other ?_ (by omega) _ _))⟩ ?_
     clear HB s0 s1 s2 s3 ls f0 f1 f2 f3 f4 f5 f6 f7 f8 f9 f10 lf g0 g1 lg z0 z1 lz fz0 fz1
     rintro V ⟨hu,bs,bo,bp,bz⟩
     have HB:=hide (And.intro hu (And.intro bs (And.intro bo (And.intro bp bz))))
     clear hu bs bo bp bz
     have s0:=(HB.out.2.1).cell 0 rfl
     have s1:=(HB.out.2.1).cell 1 rfl
     have s2:=(HB.out.2.1).cell 2 rfl
     have s3:=(HB.out.2.1).cell 3 rfl
     have ls:=(HB.out.2.1).lt
     have f0:=(HB.out.2.2.1).cell 0 rfl
     have f1:=(HB.out.2.2.1).cell 1 rfl
     have f2:=(HB.out.2.2.1).cell 2 rfl
     have f3:=(HB.out.2.2.1).cell 3 rfl
     have f4:=(HB.out.2.2.1).cell 4 rfl
     have f5:=(HB.out.2.2.1).cell 5 rfl
     have f6:=(HB.out.2.2.1).cell 6 rfl
     have f7:=(HB.out.2.2.1).cell 7 rfl
     have f8:=(HB.out.2.2.1).cell 8 rfl
     have f9:=(HB.out.2.2.1).cell 9 rfl
     have f10:=(HB.out.2.2.1).cell 10 rfl
     have lf:=(HB.out.2.2.1).lt
     have g0:=(HB.out.2.2.2.1).cell 0 rfl
     have g1:=(HB.out.2.2.2.1).cell 1 rfl
     have lg:=(HB.out.2.2.2.1).lt
     have z0:=(HB.out.2.2.2.2).cell 0 rfl
     have z1:=(HB.out.2.2.2.2).cell 1 rfl
     have lz:=(HB.out.2.2.2.2).lt
     have fz0:=(HB.out.2.2.2.2).frozen 0
     have fz1:=(HB.out.2.2.2.2).frozen 1
     refine wp_region_float (al:=[(5,8,#[.int .i64 (0),.int .i64 (0)],31)]) (mv:=fun _=>false) [6] [0,1,2,3,4] (by kernel_rfl) (by kernel_rfl) (makes1 ⟨_,rfl,rfl,fun _=>rfl,fun _ _=>by simp [go_sem]⟩) (cls_ext _) (by first|exact drew_in2 _ _|exact drew_in _) (Nat.le_refl _) ?_
     simp only [withOps,List.filterMap_cons,List.filterMap_nil,List.getElem?_toArray,List.getElem?_cons_zero,List.getElem?_cons_succ,Option.map_some]
     (repeat (first|(apply walkF_pure (base:=fun p:Ext=>ext _ p) rfl rfl rfl (by kernel_rfl);· (intro px K hK;go_big_quiet_op;first|exact hK|(apply Exists.intro;refine ⟨fun _=>?_,?_⟩;(· ((first|(go_at_call 50;with_reducible exact Gives.inFloat (HO.out _ (Up.ext HB.out.1 _)))|(go_at_call 293;with_reducible exact Gives.inFloat (HR.out _)))));exact hK)))|(apply walkF_skip rfl;simp only [Act.put,List.setIfInBounds_toArray,List.set_cons_zero,List.set_cons_succ])))
     refine walkF_nil (end1 (fun Q U hq hU bq=>?_))
     simp only [Act.put,List.setIfInBounds_toArray,List.set_cons_zero,List.set_cons_succ]
     (try simp only [List.filterMap_cons,List.filterMap_nil,List.getElem?_toArray,List.getElem?_cons_zero,List.getElem?_cons_succ])
     have hU1:Up V U:=hU
     have HQ:=hide (And.intro (HB.out.1.trans hU1) (And.intro (HB.out.2.2.2.2.up hU1) bq))
     have hlz:=HB.out.2.2.2.2.lt
     clear s0 s1 s2 s3 ls f0 f1 f2 f3 f4 f5 f6 f7 f8 f9 f10 lf g0 g1 lg z0 z1 lz fz0 fz1
     have q0:=bq.cell 0 rfl
     have q1:=bq.cell 1 rfl
     have lq:=bq.lt
     have fq0:=bq.frozen 0
     have fq1:=bq.frozen 1
     have z0:=HQ.out.2.1.cell 0 rfl
     have z1:=HQ.out.2.1.cell 1 rfl
     have lz:=HQ.out.2.1.lt
     have fz0:=HQ.out.2.1.frozen 0
     have fz1:=HQ.out.2.1.frozen 1
     have hwQ:w.heap.size≤Q:=by omega
     have n1:w.heap.size+1+1+1≠Q:=by omega
     have n2:Q≠w.heap.size+1+1+1:=by omega
     clear hU hU1 bq HB
     go_wp2_with fail
    · refine forgetW (fun WF=>Up w WF∧Box WF (w.heap.size+1+1+1) #[.int .i64 (R1),.int .i64 (R2)] 31) ⟨(by with_reducible repeat (first|exact HQ.out.1|exact Up.refl _|apply Up.ext|apply Up.alloc|apply Up.drew|refine Up.setCell ?_ (by simp only;omega) _)),?_⟩ ?_
      · exact (by (repeat (first|with_reducible apply Box.ext|with_reducible apply Box.alloc|with_reducible apply Box.drew));exact ((((HQ.out.2.1.other (b':=Q) n1 0 (.int .i64 R1)).other (b':=Q) n1 1 (.int .i64 R2)).set 0 (.int .i64 R1)).set 1 (.int .i64 R2)))
      rintro WF ⟨huF,hbF⟩
      have w0:=hbF.cell 0 rfl
      have w1:=hbF.cell 1 rfl
      (refine bodyPost_give huF rfl ⟨_,(by simp [results,Tryz.results19,go_sem,w0,w1];rfl),?_⟩)
      rfl
    · refine forgetW (fun WF=>Up w WF∧Box WF (w.heap.size+1+1+1) #[.int .i64 (0),.int .i64 (0)] 31) ⟨(by with_reducible repeat (first|exact HQ.out.1|exact Up.refl _|apply Up.ext|apply Up.alloc|apply Up.drew|refine Up.setCell ?_ (by simp only;omega) _)),?_⟩ ?_
      · exact (by (repeat (first|with_reducible apply Box.ext|with_reducible apply Box.alloc|with_reducible apply Box.drew));exact ((((HQ.out.2.1.other (b':=Q) n1 0 (.int .i64 R1)).other (b':=Q) n1 1 (.int .i64 R2)).set 0 (.int .i64 0)).set 1 (.int .i64 0)))
      rintro WF ⟨huF,hbF⟩
      have w0:=hbF.cell 0 rfl
      have w1:=hbF.cell 1 rfl
      (refine bodyPost_give huF rfl ⟨_,(by simp [results,Tryz.results19,go_sem,w0,w1];rfl),?_⟩)
      rfl
   by_cases hle:R1≤R2
   · rw [if_pos hle];exact key false (by simpa using hle)
   · rw [if_neg hle];exact key true (by simpa using hle)
 · rw [if_pos (by simp [hs])] at HO
   have HR:=hide (fun W=>wsreads_any hk hpb hs (field_front hfk hs) W)
   have hm:=fun (n:Nat) (w:World)=>(meth_s k n w).2.2.2
   simp only [mReads,theName] at hm
   generalize readsK k p=R at *
   obtain ⟨R1,R2⟩:=R
   generalize s.home=home at *
   clear hL he hk hpb hfk hs hF
   obtain ⟨p1,p2⟩:=p
   dsimp only at *
   have key:∀ (b:Bool),decide (R2<R1)=b→Gives Tryz.prog 19 #[.agg #[.slice a n c,.int .i64 home,.slice sa sn sc,.slice ca cn cc],.agg (offA o),.agg #[.int .i64 (p1),.int .i64 (p2)]] w (if b=true then (.tuple #[.agg #[.int .i64 (0),.int .i64 (0)],.bool false]) else (.tuple #[.agg #[.int .i64 (R1),.int .i64 (R2)],.bool true])):=fun b hb=>by
    cases b
    all_goals
     (unfold Gives;go_enter Tryz.func19,Tryz.ntmps19)
     go_wp2_with fail
     go_at_call 18
     refine forgetK (fun V=>Up w V∧Box V w.heap.size #[.slice a n c,.int .i64 home,.slice sa sn sc,.slice ca cn cc] 29∧Box V (w.heap.size+1) (offA o) 50∧Box V (w.heap.size+1+1) #[.int .i64 (p1),.int .i64 (p2)] 48∧Box V (w.heap.size+1+1+1) #[.int .i64 (0),.int .i64 (0)] 31) ⟨(by repeat (first|with_reducible (first|exact Up.refl _|apply Up.plus)|apply Up.ext|apply Up.alloc|apply Up.drew|refine Up.setCell ?_ (by simp;try omega) _)),(by repeat (first|exact Box.mk rfl|(refine Box.mk ?_;simp;done)|apply Box.ext|apply Box.drew|apply Box.alloc|apply Box.two1|refine Box.other ?_ (by omega) _ _)),(by repeat (first|exact Box.mk rfl|(refine Box.mk ?_;simp;done)|apply Box.ext|apply Box.drew|apply Box.alloc|apply Box.two1|refine Box.other ?_ (by omega) _ _)),(by repeat (first|exact Box.mk rfl|(refine Box.mk ?_;simp;done)|apply Box.ext|apply Box.drew|apply Box.alloc|apply Box.two1|refine Box.other ?_ (by omega) _ _)),(by repeat (first|exact Box.mk rfl|(refine Box.mk ?_;simp;done)|apply Box.ext|apply Box.drew|apply Box.alloc|apply Box.two1|refine Box.other ?_ (by omega) _ _))⟩ ?_
     rintro V ⟨hu,bs,bo,bp,bz⟩
     have HB:=hide (And.intro hu (And.intro bs (And.intro bo (And.intro bp bz))))
     clear hu bs bo bp bz
     refine (HF.out _ HB.out.1).mono ?_
     intro pf
     have s0:=(HB.out.2.1).cell 0 rfl
     have s1:=(HB.out.2.1).cell 1 rfl
     have s2:=(HB.out.2.1).cell 2 rfl
     have s3:=(HB.out.2.1).cell 3 rfl
     have ls:=(HB.out.2.1).lt
     have f0:=(HB.out.2.2.1).cell 0 rfl
     have f1:=(HB.out.2.2.1).cell 1 rfl
     have f2:=(HB.out.2.2.1).cell 2 rfl
     have f3:=(HB.out.2.2.1).cell 3 rfl
     have f4:=(HB.out.2.2.1).cell 4 rfl
     have f5:=(HB.out.2.2.1).cell 5 rfl
     have f6:=(HB.out.2.2.1).cell 6 rfl
     have f7:=(HB.out.2.2.1).cell 7 rfl
     have f8:=(HB.out.2.2.1).cell 8 rfl
     have f9:=(HB.out.2.2.1).cell 9 rfl
     have f10:=(HB.out.2.2.1).cell 10 rfl
     have lf:=(HB.out.2.2.1).lt
     have g0:=(HB.out.2.2.2.1).cell 0 rfl
     have g1:=(HB.out.2.2.2.1).cell 1 rfl
     have lg:=(HB.out.2.2.2.1).lt
     have z0:=(HB.out.2.2.2.2).cell 0 rfl
     have z1:=(HB.out.2.2.2.2).cell 1 rfl
     have lz:=(HB.out.2.2.2.2).lt
     have fz0:=(HB.out.2.2.2.2).frozen 0
     have fz1:=(HB.out.2.2.2.2).frozen 1
     go_wp2_with fail
     refine forgetW (fun V=>Up w V∧Box V w.heap.size #[.slice a n c,.int .i64 home,.slice sa sn sc,.slice ca cn cc] 29∧Box V (w.heap.size+1) (offA o) 50∧Box V (w.heap.size+1+1) #[.int .i64 (p1),.int .i64 (p2)] 48∧Box V (w.heap.size+1+1+1) #[.int .i64 (0),.int .i64 (0)] 31) ⟨(by with_reducible repeat (first|exact HB.out.1|exact Up.refl _|apply Up.ext|apply Up.alloc|apply Up.drew|refine Up.setCell ?_ (by simp only;omega) _)),(by with_reducible repeat (first|exact HB.out.2.1|apply Box.ext|apply Box.alloc|apply Box.drew|refine Box.other ?_ (by omega) _ _)),(by with_reducible repeat (first|exact HB.out.2.2.1|apply Box.ext|apply Box.alloc|apply Box.drew|refine Box.other ?_ (by omega) _ _)),(by with_reducible repeat (first|exact HB.out.2.2.2.1|apply Box.ext|apply Box.alloc|apply Box.drew|refine Box.other ?_ (by omega) _ _)),(by with_reducible repeat (first|exact HB.out.2.2.2.2|apply Box.ext|apply Box.alloc|apply Box.drew|refine Box.other ?_ (by omega) _ _))⟩ ?_
     clear HB s0 s1 s2 s3 ls f0 f1 f2 f3 f4 f5 f6 f7 f8 f9 f10 lf g0 g1 lg z0 z1 lz fz0 fz1
     rintro V ⟨hu,bs,bo,bp,bz⟩
     have HB:=hide (And.intro hu (And.intro bs (And.intro bo (And.intro bp bz))))
     clear hu bs bo bp bz
     have s0:=(HB.out.2.1).cell 0 rfl
     have s1:=(HB.out.2.1).cell 1 rfl
     have s2:=(HB.out.2.1).cell 2 rfl
     have s3:=(HB.out.2.1).cell 3 rfl
     have ls:=(HB.out.2.1).lt
     have f0:=(HB.out.2.2.1).cell 0 rfl
     have f1:=(HB.out.2.2.1).cell 1 rfl
     have f2:=(HB.out.2.2.1).cell 2 rfl
     have f3:=(HB.out.2.2.1).cell 3 rfl
     have f4:=(HB.out.2.2.1).cell 4 rfl
     have f5:=(HB.out.2.2.1).cell 5 rfl
     have f6:=(HB.out.2.2.1).cell 6 rfl
     have f7:=(HB.out.2.2.1).cell 7 rfl
     have f8:=(HB.out.2.2.1).cell 8 rfl
     have f9:=(HB.out.2.2.1).cell 9 rfl
     have f10:=(HB.out.2.2.1).cell 10 rfl
     have lf:=(HB.out.2.2.1).lt
     have g0:=(HB.out.2.2.2.1).cell 0 rfl
     have g1:=(HB.out.2.2.2.1).cell 1 rfl
     have lg:=(HB.out.2.2.2.1).lt
     have z0:=(HB.out.2.2.2.2).cell 0 rfl
     have z1:=(HB.out.2.2.2.2).cell 1 rfl
     have lz:=(HB.out.2.2.2.2).lt
     have fz0:=(HB.out.2.2.2.2).frozen 0
     have fz1:=(HB.out.2.2.2.2).frozen 1
     refine wp_region_float (al:=[(5,8,#[.int .i64 (0),.int .i64 (0)],31)]) (mv:=fun _=>false) [6] [0,1,2,3,4] (by kernel_rfl) (by kernel_rfl) (makes1 ⟨_,rfl,rfl,fun _=>rfl,fun _ _=>by simp [go_sem]⟩) (cls_ext _) (by first|exact drew_in2 _ _|exact drew_in _) (Nat.le_refl _) ?_
     simp only [withOps,List.filterMap_cons,List.filterMap_nil,List.getElem?_toArray,List.getElem?_cons_zero,List.getElem?_cons_succ,Option.map_some]
     (repeat (first|(apply walkF_pure (base:=fun p:Ext=>ext _ p) rfl rfl rfl (by kernel_rfl);· (intro px K hK;go_big_quiet_op;first|exact hK|(apply Exists.intro;refine ⟨fun _=>?_,?_⟩;(· ((first|(go_at_call 50;with_reducible exact Gives.inFloat (HO.out _ (Up.ext HB.out.1 _)))|(go_at_call 299;with_reducible exact Gives.inFloat (HR.out _)))));exact hK)))|(apply walkF_skip rfl;simp only [Act.put,List.setIfInBounds_toArray,List.set_cons_zero,List.set_cons_succ])))
     refine walkF_nil (end1 (fun Q U hq hU bq=>?_))
     simp only [Act.put,List.setIfInBounds_toArray,List.set_cons_zero,List.set_cons_succ]
     (try simp only [List.filterMap_cons,List.filterMap_nil,List.getElem?_toArray,List.getElem?_cons_zero,List.getElem?_cons_succ])
     have hU1:Up V U:=hU
     have HQ:=hide (And.intro (HB.out.1.trans hU1) (And.intro (HB.out.2.2.2.2.up hU1) bq))
     have hlz:=HB.out.2.2.2.2.lt
     clear s0 s1 s2 s3 ls f0 f1 f2 f3 f4 f5 f6 f7 f8 f9 f10 lf g0 g1 lg z0 z1 lz fz0 fz1
     have q0:=bq.cell 0 rfl
     have q1:=bq.cell 1 rfl
     have lq:=bq.lt
     have fq0:=bq.frozen 0
     have fq1:=bq.frozen 1
     have z0:=HQ.out.2.1.cell 0 rfl
     have z1:=HQ.out.2.1.cell 1 rfl
     have lz:=HQ.out.2.1.lt
     have fz0:=HQ.out.2.1.frozen 0
     have fz1:=HQ.out.2.1.frozen 1
     have hwQ:w.heap.size≤Q:=by omega
     have n1:w.heap.size+1+1+1≠Q:=by omega
     have n2:Q≠w.heap.size+1+1+1:=by omega
     clear hU hU1 bq HB
     go_wp2_with fail
    · refine forgetW (fun WF=>Up w WF∧Box WF (w.heap.size+1+1+1) #[.int .i64 (R1),.int .i64 (R2)] 31) ⟨(by with_reducible repeat (first|exact HQ.out.1|exact Up.refl _|apply Up.ext|apply Up.alloc|apply Up.drew|refine Up.setCell ?_ (by simp only;omega) _)),?_⟩ ?_
      · exact (by (repeat (first|with_reducible apply Box.ext|with_reducible apply Box.alloc|with_reducible apply Box.drew));exact ((((HQ.out.2.1.other (b':=Q) n1 0 (.int .i64 R1)).other (b':=Q) n1 1 (.int .i64 R2)).set 0 (.int .i64 R1)).set 1 (.int .i64 R2)))
      rintro WF ⟨huF,hbF⟩
      have w0:=hbF.cell 0 rfl
      have w1:=hbF.cell 1 rfl
      (refine bodyPost_give huF rfl ⟨_,(by simp [results,Tryz.results19,go_sem,w0,w1];rfl),?_⟩)
      rfl
    · refine forgetW (fun WF=>Up w WF∧Box WF (w.heap.size+1+1+1) #[.int .i64 (0),.int .i64 (0)] 31) ⟨(by with_reducible repeat (first|exact HQ.out.1|exact Up.refl _|apply Up.ext|apply Up.alloc|apply Up.drew|refine Up.setCell ?_ (by simp only;omega) _)),?_⟩ ?_
      · exact (by (repeat (first|with_reducible apply Box.ext|with_reducible apply Box.alloc|with_reducible apply Box.drew));exact ((((HQ.out.2.1.other (b':=Q) n1 0 (.int .i64 R1)).other (b':=Q) n1 1 (.int .i64 R2)).set 0 (.int .i64 0)).set 1 (.int .i64 0)))
      rintro WF ⟨huF,hbF⟩
      have w0:=hbF.cell 0 rfl
      have w1:=hbF.cell 1 rfl
      (refine bodyPost_give huF rfl ⟨_,(by simp [results,Tryz.results19,go_sem,w0,w1];rfl),?_⟩)
      rfl
   by_cases hle:R1≤R2
   · rw [if_pos hle];exact key false (by simpa using hle)
   · rw [if_neg hle];exact key true (by simpa using hle)
end Go.Proofs.YteafglginnonnaaGreat
/- The sky, the offers of the chapter's examples, and the examples that each law of layer 6 asks. No conditions. -/
namespace Go.Proofs.YteafglginnonnaaGreat
open Go.RowKit Go.Shelf
def shownS:SkyD:=⟨[⟨0,0,[(0,0)]⟩],0,[(1,0,0)],[(1,0,0)]⟩
def radarO:OffD:=⟨2,1,0,0,0,0,2,100,0,3,true⟩
def scopeO:OffD:=⟨1,1,1,0,1,0,1000,1000,500000,1,false⟩
theorem Vecs.ofB {K:Nat→Prop} {w:World} {B n:Nat} {T:TypeId} {C:Array Value} {l:List (Int×Int)} (hb:Box w B C T) (hK:K B) (hn:n=l.length) (hm:l.length≤1000000)
 (hC:∀ (i:Nat) (p:Int×Int),l[i]?=some p→C[i*2]?=some (.int .i64 p.1)∧C[i*2+1]?=some (.int .i64 p.2)∧I64 p.1∧I64 p.2) (c:Nat):Vecs K w (.slice (some ⟨B,0,none⟩) n c) l:=by
 subst hn
 refine ⟨_,_,rfl,by omega,fun _=>⟨B,0,rfl,hK,hb.lt,fun i x hx=>?_⟩⟩
 obtain ⟨h0,h1,h2,h3⟩:=hC i x hx
 refine ⟨_,⟨rfl,h2,h3⟩,rfl,fun j u hu=>?_⟩
 match j,hu with
 | 0,hu=>cases hu;exact hb.cell _ (by simpa using h0)
 | 1,hu=>cases hu;exact hb.cell _ (by simpa using h1)
theorem Tris.ofB {K:Nat→Prop} {w:World} {B n:Nat} {T:TypeId} {C:Array Value} {l:List (Int×Int×Int)} (hb:Box w B C T) (hK:K B) (hn:n=l.length) (hm:l.length≤1000000)
 (hC:∀ (i:Nat) (p:Int×Int×Int),l[i]?=some p→C[i*3]?=some (.int .i64 p.1)∧C[i*3+1]?=some (.int .i64 p.2.1)∧C[i*3+2]?=some (.int .i64 p.2.2)∧I64 p.1∧I64 p.2.1∧I64 p.2.2) (c:Nat):Tris K w (.slice (some ⟨B,0,none⟩) n c) l:=by
 subst hn
 refine ⟨_,_,rfl,by omega,fun _=>⟨B,0,rfl,hK,hb.lt,fun i x hx=>?_⟩⟩
 obtain ⟨h0,h1,h2,h3⟩:=hC i x hx
 refine ⟨_,⟨rfl,h3⟩,rfl,fun j u hu=>?_⟩
 match j,hu with
 | 0,hu=>cases hu;exact hb.cell _ (by simpa using h0)
 | 1,hu=>cases hu;exact hb.cell _ (by simpa using h1)
 | 2,hu=>cases hu;exact hb.cell _ (by simpa using h2)
theorem Bods.ofB {K:Nat→Prop} {w:World} {B n:Nat} {T:TypeId} {C:Array Value} {l:List Bod} (hb:Box w B C T) (hK:K B) (hn:n=l.length) (hm:l.length≤1000000)
 (hC:∀ (i:Nat) (p:Bod),l[i]?=some p→∃ tv,C[i*3]?=some (.int .i64 p.mu)∧C[i*3+1]?=some (.int .i64 p.radius)∧C[i*3+2]?=some tv∧I64 p.mu∧I64 p.radius∧Vecs K w tv p.track) (c:Nat):Bods K w (.slice (some ⟨B,0,none⟩) n c) l:=by
 subst hn
 refine ⟨_,_,rfl,by omega,fun _=>⟨B,0,rfl,hK,hb.lt,fun i x hx=>?_⟩⟩
 obtain ⟨tv,h0,h1,h2,h3,h4,h5⟩:=hC i x hx
 refine ⟨_,⟨tv,rfl,h3,h4,h5⟩,rfl,fun j u hu=>?_⟩
 match j,hu with
 | 0,hu=>cases hu;exact hb.cell _ (by simpa using h0)
 | 1,hu=>cases hu;exact hb.cell _ (by simpa using h1)
 | 2,hu=>cases hu;exact hb.cell _ (by simpa using h2)
theorem shown6_any (w:World):Calls Tryz.prog 15 #[] w fun e W=>∃ (a:Option Addr) (n c:Nat) (sa:Option Addr) (sn sc:Nat) (ca:Option Addr) (cn cc:Nat) (p:Ext),
 e=.returned (.agg #[.slice a n c,.int .i64 0,.slice sa sn sc,.slice ca cn cc])∧SkyL (fun b=>w.heap.size≤b) W a n c sa sn sc ca cn cc shownS∧W=ext w p:=by
 go_enter Tryz.func15,Tryz.ntmps15
 go_wp2
 refine forgetW (fun W=>Up w W∧Box W w.heap.size #[.slice (some ⟨w.heap.size+1+1,0,none⟩) 1 1,.int .i64 0,.slice (some ⟨w.heap.size+1+1+1,0,none⟩) 1 1,.slice (some ⟨w.heap.size+1+1+1+1,0,none⟩) 1 1] 29∧Box W (w.heap.size+1) #[.int .i64 (0),.int .i64 (0)] 48 ∧
  Box W (w.heap.size+1+1) #[.int .i64 0,.int .i64 0,.slice (some ⟨w.heap.size+1,0,none⟩) 1 1] 110∧Box W (w.heap.size+1+1+1) #[.int .i64 (1),.int .i64 (0),.int .i64 (0)] 112∧Box W (w.heap.size+1+1+1+1) #[.int .i64 (1),.int .i64 (0),.int .i64 (0)] 114) ⟨(by repeat (first|with_reducible (first|exact Up.refl _|apply Up.plus)|apply Up.ext|apply Up.alloc|apply Up.drew|refine Up.setCell ?_ (by simp;try omega) _)),(by repeat (first|exact Box.mk rfl|(refine Box.mk ?_;simp;done)|apply Box.ext|apply Box.drew|apply Box.alloc|apply Box.two1|refine Box.other ?_ (by omega) _ _)),(by repeat (first|exact Box.mk rfl|(refine Box.mk ?_;simp;done)|apply Box.ext|apply Box.drew|apply Box.alloc|apply Box.two1|refine Box.other ?_ (by omega) _ _)),(by repeat (first|exact Box.mk rfl|(refine Box.mk ?_;simp;done)|apply Box.ext|apply Box.drew|apply Box.alloc|apply Box.two1|refine Box.other ?_ (by omega) _ _)),(by repeat (first|exact Box.mk rfl|(refine Box.mk ?_;simp;done)|apply Box.ext|apply Box.drew|apply Box.alloc|apply Box.two1|refine Box.other ?_ (by omega) _ _)),(by repeat (first|exact Box.mk rfl|(refine Box.mk ?_;simp;done)|apply Box.ext|apply Box.drew|apply Box.alloc|apply Box.two1|refine Box.other ?_ (by omega) _ _))⟩ ?_
 rintro W ⟨⟨p,hp⟩,b0,b1,b2,b3,b4⟩
 have c0:=b0.cell 0 rfl
 have c1:=b0.cell 1 rfl
 have c2:=b0.cell 2 rfl
 have c3:=b0.cell 3 rfl
 refine bodyPost_ret (v:=.agg #[.slice (some ⟨w.heap.size+1+1,0,none⟩) 1 1,.int .i64 0,.slice (some ⟨w.heap.size+1+1+1,0,none⟩) 1 1,.slice (some ⟨w.heap.size+1+1+1+1,0,none⟩) 1 1]) (by simp [results,Tryz.results15,go_sem,c0,c1,c2,c3]) rfl ⟨_,_,_,_,_,_,_,_,_,p,rfl,?_,hp⟩
 have i0:I64 0:=⟨by decide,by decide⟩
 have i1:I64 1:=⟨by decide,by decide⟩
 have v1:Vecs (fun b=>w.heap.size≤b) W (.slice (some ⟨w.heap.size+1,0,none⟩) 1 1) [(0,0)]:=Vecs.ofB (K:=fun b=>w.heap.size≤b) (l:=[(0,0)]) b1 (by show _≤_;omega) rfl (by decide) (fun i q hq=>by
  match i,hq with
  | 0,hq=>cases hq;exact ⟨rfl,rfl,i0,i0⟩) 1
 exact ⟨Bods.ofB (K:=fun b=>w.heap.size≤b) (l:=[⟨0,0,[(0,0)]⟩]) b2 (by show _≤_;omega) rfl (by decide) (fun i q hq=>by
  match i,hq with
  | 0,hq=>cases hq;exact ⟨_,rfl,rfl,rfl,i0,i0,v1⟩) 1,i0,
  Tris.ofB (K:=fun b=>w.heap.size≤b) (l:=[(1,0,0)]) b3 (by show _≤_;omega) rfl (by decide) (fun i q hq=>by
   match i,hq with
   | 0,hq=>cases hq;exact ⟨rfl,rfl,rfl,i1,i0,i0⟩) 1,
  Tris.ofB (K:=fun b=>w.heap.size≤b) (l:=[(1,0,0)]) b4 (by show _≤_;omega) rfl (by decide) (fun i q hq=>by
   match i,hq with
   | 0,hq=>cases hq;exact ⟨rfl,rfl,rfl,i1,i0,i0⟩) 1⟩
theorem radar6_any (w:World):Gives Tryz.prog 16 #[] w (.agg (offA radarO)):=by
 (unfold Gives;go_enter Tryz.func16,Tryz.ntmps16)
 go_wp2
 all_goals (refine bodyPost_give (by repeat (first|with_reducible (first|exact Up.refl _|apply Up.plus)|apply Up.ext|apply Up.alloc|apply Up.drew|refine Up.setCell ?_ (by simp;try omega) _)) rfl ⟨_,(by simp [results,Tryz.results16,go_sem];rfl),?_⟩)
 all_goals rfl
theorem scope6_any (w:World):Gives Tryz.prog 17 #[] w (.agg (offA scopeO)):=by
 (unfold Gives;go_enter Tryz.func17,Tryz.ntmps17)
 go_wp2
 all_goals (refine bodyPost_give (by repeat (first|with_reducible (first|exact Up.refl _|apply Up.plus)|apply Up.ext|apply Up.alloc|apply Up.drew|refine Up.setCell ?_ (by simp;try omega) _)) rfl ⟨_,(by simp [results,Tryz.results17,go_sem];rfl),?_⟩)
 all_goals rfl
theorem awake6_view:viewV shownS scopeO (100,200,10,20)=((true,true,49000,201000),0):=by decide +kernel
theorem awake6_reads:readsV shownS radarO (60,80)=((98,102),true):=by decide +kernel
set_option maxRecDepth 100000 in
set_option maxHeartbeats 2000000 in
theorem awake6_any (w:World):Gives Tryz.prog 11 #[] w (.bool true):=by
 have H1:∀ (K:Nat→Prop) (W0 W:World) (a:Option Addr) (n c:Nat) (sa:Option Addr) (sn sc:Nat) (ca:Option Addr) (cn cc:Nat),SkyL K W0 a n c sa sn sc ca cn cc shownS→Up W0 W →
  Gives Tryz.prog 21 #[.agg #[.slice a n c,.int .i64 0,.slice sa sn sc,.slice ca cn cc],.agg (offA scopeO),.agg #[.int .i64 (100),.int .i64 (200),.int .i64 (10),.int .i64 (20)]] W (.tuple #[.agg #[.bool true,.bool true,.int .i64 49000,.int .i64 201000],.int .i64 0]):=fun K W0 W a n c sa sn sc ca cn cc h hu=>by
  have:=wView_any (h.up hu) scopeO (100,200,10,20)
  rw [awake6_view] at this
  exact this
 have H2:∀ (K:Nat→Prop) (W0 W:World) (a:Option Addr) (n c:Nat) (sa:Option Addr) (sn sc:Nat) (ca:Option Addr) (cn cc:Nat),SkyL K W0 a n c sa sn sc ca cn cc shownS→Up W0 W →
  Gives Tryz.prog 19 #[.agg #[.slice a n c,.int .i64 0,.slice sa sn sc,.slice ca cn cc],.agg (offA radarO),.agg #[.int .i64 (60),.int .i64 (80)]] W (.tuple #[.agg #[.int .i64 (98),.int .i64 (102)],.bool true]):=fun K W0 W a n c sa sn sc ca cn cc h hu=>by
  have:=wReads_any (h.up hu) radarO (60,80)
  rw [awake6_reads] at this
  exact this
 have K1:=hide H1
 have K2:=hide H2
 clear H1 H2
 (unfold Gives;go_enter Tryz.func11,Tryz.ntmps11)
 go_wp2_with (first | (go_at_call 15;refine (shown6_any _).mono ?_;rintro _ _ ⟨a,n,c,sa,sn,sc,ca,cn,cc,px,rfl,hb,rfl⟩) | (go_at_call 17;refine (scope6_any _).mono ?_;intro _) | (go_at_call 16;refine (radar6_any _).mono ?_;intro _) | (go_at_call 20;refine (xarea6_any _ _ _ _ _).mono ?_;intro _) | (go_at_call 21;refine (K1.out _ _ _ _ _ _ _ _ _ _ _ _ (by assumption) (by repeat (first|with_reducible (first|exact Up.refl _|apply Up.plus)|apply Up.ext|apply Up.alloc|apply Up.drew|refine Up.setCell ?_ (by simp;try omega) _))).mono ?_;intro _) | (go_at_call 19;refine (K2.out _ _ _ _ _ _ _ _ _ _ _ _ (by assumption) (by repeat (first|with_reducible (first|exact Up.refl _|apply Up.plus)|apply Up.ext|apply Up.alloc|apply Up.drew|refine Up.setCell ?_ (by simp;try omega) _))).mono ?_;intro _))
 go_ret
 exact ⟨rfl,(by repeat (first|with_reducible (first|exact Up.refl _|apply Up.plus)|apply Up.ext|apply Up.alloc|apply Up.drew|refine Up.setCell ?_ (by simp;try omega) _))⟩
end Go.Proofs.YteafglginnonnaaGreat
