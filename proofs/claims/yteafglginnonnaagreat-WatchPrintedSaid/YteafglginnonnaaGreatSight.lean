/- Several texts in one. -/
import Derived.Test.YteafglginnonnaaGreatWatchJ
import Derived.Test.YteafglginnonnaaGreatMade
/- Sights made of numbers: plain parts. -/
set_option linter.unusedVariables false
set_option linter.unusedSimpArgs false
namespace Go.Proofs.YteafglginnonnaaGreat
open Go.RowKit
def RSight (s:SkyD) (tick:Int) (v:Value):Prop:=∃ kind st cat dx dy err lo hi:Int,(1≤kind∧kind≤3)∧(s.stations.any fun x=>x.1==st)=true∧(s.catalogs.any fun x=>x.1==cat)=true ∧
 ((-4096≤dx∧dx≤4096)∧(-4096≤dy∧dy≤4096)∧¬ (dx=0∧dy=0))∧(0≤err∧err≤39999)∧(0≤lo∧lo≤999)∧(1≤hi∧hi≤7000)∧v=.agg #[.int .i64 (kind),.int .i64 (st),.int .i64 (cat),.int .i64 (tick),.int .i64 (dx),.int .i64 (dy),.int .i64 (err),.int .i64 (lo),.int .i64 (hi)]
def ROffer (s:SkyD) (tick:Int) (v:Value):Prop:=∃ o:OffD,offE s o=0∧o.tick=tick∧o.far≤133300000∧v=.agg (offA o)
def halfOut (dx dy:Int):Prop:=dx > 4096 ∨ -dx > 4096∨dy > 4096 ∨ -dy > 4096
theorem half_cases (d:Int):(0≤d∧d.tdiv 2=d / 2)∨(d<0∧d.tdiv 2 = -((-d) / 2)):=by
 by_cases h:0≤d
 · exact .inl ⟨h,Int.tdiv_eq_ediv_of_nonneg h⟩
 · refine .inr ⟨by omega,?_⟩
   have h1:=Int.neg_tdiv (a:=-d) (b:=2)
   have h2:=Int.tdiv_eq_ediv_of_nonneg (a:=-d) (b:=2) (by omega)
   rw [Int.neg_neg,h2] at h1
   exact h1
theorem half_less {dx dy:Int} (h:halfOut dx dy):(dx.tdiv 2).natAbs+(dy.tdiv 2).natAbs<dx.natAbs+dy.natAbs:=by
 unfold halfOut at h
 rcases half_cases dx with ⟨_,e⟩ | ⟨_,e⟩ <;> rcases half_cases dy with ⟨_,f⟩ | ⟨_,f⟩ <;> rw [e,f] <;> omega
theorem half_bd {d m:Int} (h:-m≤d∧d≤m) (hm:0≤m):-m≤d.tdiv 2∧d.tdiv 2≤m:=by
 rcases half_cases d with ⟨_,e⟩ | ⟨_,e⟩ <;> rw [e] <;> omega
open Go.Shelf
theorem SkyL.keeps {K:Nat→Prop} {w w':World} {a:Option Addr} {n c:Nat} {sa:Option Addr} {sn sc:Nat} {ca:Option Addr} {cn cc:Nat} {s:SkyD} (h:SkyL K w a n c sa sn sc ca cn cc s) (hk:Keeps K w w'):SkyL K w' a n c sa sn sc ca cn cc s :=
 ⟨h.b.keeps hk,h.h,h.st.keeps hk,h.ca.keeps hk⟩
theorem any_at {l:List (Int×Int×Int)} {i:Nat} {p:Int×Int×Int} (h:l[i]?=some p):(l.any fun x=>x.1==p.1)=true:=by
 simp only [List.any_eq_true,beq_iff_eq]
 exact ⟨p,List.mem_of_getElem? h,rfl⟩
theorem RingAt.keepsK {K:Nat→Prop} {w W:World} {B:Nat} {n:Int} (h:RingAt w B n W) (hK:∀ b,K b→b≠B):Keeps K w W:=by
 obtain ⟨t,p,_,_,rfl⟩:=h
 exact Keeps.grown (grown_up (grown_set (grown_refl _ _) _ _) ((Up.refl _).ext p)) hK
theorem RingAt.trans {w V U:World} {B:Nat} {n m:Int} (h:RingAt w B n V) (k:RingAt V B m U) (hB:B<w.heap.size):RingAt w B m U:=by
 obtain ⟨t1,p1,_,_,rfl⟩:=h
 obtain ⟨t2,p2,h0,h1,rfl⟩:=k
 exact ⟨t2,p1.plus p2,h0,h1,by rw [ext_setCell _ _ _ _ _ (by rw [set_size];exact hB),set_again,ext_ext]⟩
structure SgS (W:World) (B:Nat) (sky:Array Value) (px py:Int) (Q:Nat) (n:Int) (v:Array Value) (U:World):Prop where
 r:RingAt W B n U
 q:Box U Q v 155
 s:Box U W.heap.size sky 29
 p:Box U (W.heap.size+1) #[.int .i64 (px),.int .i64 (py)] 48
 z:Box U (W.heap.size+1+1) #[.int .i64 (0),.int .i64 (0),.int .i64 (0),.int .i64 (0),.int .i64 (0),.int .i64 (0),.int .i64 (0),.int .i64 (0),.int .i64 (0)] 155
section
variable {W:World} {B:Nat} {sky:Array Value} {px py:Int} {Q:Nat} {n:Int} {v:Array Value} {U:World}
theorem SgS.ext (h:SgS W B sky px py Q n v U) (p:Ext):SgS W B sky px py Q n v (Go.Proofs.YteafglginnonnaaGreat.ext U p):=⟨h.r.ext p,h.q.ext p,h.s.ext p,h.p.ext p,h.z.ext p⟩
theorem SgS.alloc (h:SgS W B sky px py Q n v U) (o:Obj):SgS W B sky px py Q n v (U.alloc o):=⟨h.r.alloc o,h.q.alloc o,h.s.alloc o,h.p.alloc o,h.z.alloc o⟩
theorem SgS.drew (h:SgS W B sky px py Q n v U):SgS W B sky px py Q n v U.drew:=⟨h.r.drew,h.q.drew,h.s.drew,h.p.drew,h.z.drew⟩
theorem SgS.grown {U':World} {m:Int} (h:SgS W B sky px py Q n v U) (hr:RingAt W B m U') (hg:U.grownBy U' (some B)) (hB:B<W.heap.size) (hQ:W.heap.size+1+1<Q):SgS W B sky px py Q m v U' :=
 ⟨hr,h.q.grown hg (by simp;omega),h.s.grown hg (by simp;omega),h.p.grown hg (by simp;omega),h.z.grown hg (by simp;omega)⟩
theorem SgS.set (h:SgS W B sky px py Q n v U) (hQ:W.heap.size+1+1<Q) (i:Nat) (x:Value):SgS W B sky px py Q n (v.setIfInBounds i x) (U.setCell ⟨Q,i,none⟩ x) :=
 ⟨h.r.set (by omega) i x,h.q.set i x,h.s.other (by omega) i x,h.p.other (by omega) i x,h.z.other (by omega) i x⟩
theorem SgS.put {v0 v1 v2 v3 v4 v5 v6 v7 v8:Value} (h:SgS W B sky px py Q n #[v0,v1,v2,v3,v4,v5,v6,v7,v8] U) (hQ:W.heap.size+1+1<Q) (a0 a1 a2 a3 a4 a5 a6 a7 a8:Value):SgS W B sky px py Q n #[a0,a1,a2,a3,a4,a5,a6,a7,a8]
 (((((((((U.setCell ⟨Q,0,none⟩ a0).setCell ⟨Q,1,none⟩ a1).setCell ⟨Q,2,none⟩ a2).setCell ⟨Q,3,none⟩ a3).setCell ⟨Q,4,none⟩ a4).setCell ⟨Q,5,none⟩ a5).setCell ⟨Q,6,none⟩ a6).setCell ⟨Q,7,none⟩ a7).setCell ⟨Q,8,none⟩ a8):=by
 simpa using ((((((((h.set hQ 0 a0).set hQ 1 a1).set hQ 2 a2).set hQ 3 a3).set hQ 4 a4).set hQ 5 a5).set hQ 6 a6).set hQ 7 a7).set hQ 8 a8
theorem SgS.res (h:SgS W B sky px py Q n v U) (a0 a1 a2 a3 a4 a5 a6 a7 a8:Value) {m:Int} (hm:n≤m) {WF:World} (e:WF =
 (((((((((U.setCell ⟨W.heap.size+1+1,0,none⟩ a0).setCell ⟨W.heap.size+1+1,1,none⟩ a1).setCell ⟨W.heap.size+1+1,2,none⟩ a2).setCell ⟨W.heap.size+1+1,3,none⟩ a3).setCell ⟨W.heap.size+1+1,4,none⟩ a4).setCell ⟨W.heap.size+1+1,5,none⟩ a5).setCell ⟨W.heap.size+1+1,6,none⟩ a6).setCell ⟨W.heap.size+1+1,7,none⟩ a7).setCell ⟨W.heap.size+1+1,8,none⟩ a8)) :
 RingAt W B m WF∧Box WF (W.heap.size+1+1) #[a0,a1,a2,a3,a4,a5,a6,a7,a8] 155:=by
 subst e
 refine ⟨(((((((((h.r.set (by omega) 0 a0).set (by omega) 1 a1).set (by omega) 2 a2).set (by omega) 3 a3).set (by omega) 4 a4).set (by omega) 5 a5).set (by omega) 6 a6).set (by omega) 7 a7).set (by omega) 8 a8).mono hm,?_⟩
 simpa using ((((((((h.z.set 0 a0).set 1 a1).set 2 a2).set 3 a3).set 4 a4).set 5 a5).set 6 a6).set 7 a7).set 8 a8
theorem SgS.keeps {K:Nat→Prop} (h:SgS W B sky px py Q n v U) (hK:∀ b,K b→b≠B):Keeps K W U:=h.r.keepsK hK
end
set_option maxRecDepth 100000 in
set_option maxHeartbeats 8000000 in
theorem sightof_any {w:World} {sl:Value} (hN:Nums w sl) {B:Nat} (hB:w.heap.size≤B) {K:Nat→Prop} (hK:∀ b,K b→b≠B) {a sa ca:Option Addr} {n c sn sc cn cc:Nat} {s:SkyD} {tick px py:Int} (hs:skyE s=0) (hn1:0<sn) (hn2:0<cn) (k0:0≤tick∧tick≤1000000) (hp:(-32000000≤px∧px≤32000000) ∧ -32000000≤py∧py≤32000000)
 (t:Int) (W:World) (hu:Up w W) (hb:Box W B #[sl,.int .i64 t] 98) (hL:SkyL K W a n c sa sn sc ca cn cc s) (t0:0≤t) (t1:t+8≤100000) :
 Calls Tryz.prog 79 #[.pointer (some ⟨B,0,none⟩),.agg #[.slice a n c,.int .i64 s.home,.slice sa sn sc,.slice ca cn cc],.int .i64 tick,.agg #[.int .i64 (px),.int .i64 (py)]] W (RPost W B t 8 (RSight s tick)):=by
 have KN:=hide (fun (m:Int) (m0:1≤m) (m1:m≤9223372036854775807) n V (hV:RingAt W B n V) (hn:n+1≤100000)=>(next_r hN hB m0 m1).at hu hb hB hV hn)
 have HR:=hide (RingAt.start (n:=t) hb t0 (by omega))
 have HW:=hide (fun (id:Int) V (hV:Keeps K W V)=>sWhere_any (hL.b.keeps hV) hL.h (hL.st.keeps hV) (hL.ca.keeps hV) id tick)
 have N1:=hide (next_r hN hB (m:=3) (by omega) (by omega))
 have sl1:sn≤9223372036854775807:=(Tris.at hL.st).2.1
 have cl1:cn≤9223372036854775807:=(Tris.at hL.ca).2.1
 have N2:=hide (next_r hN hB (m:=sn) (by omega) (by omega))
 have N3:=hide (next_r hN hB (m:=cn) (by omega) (by omega))
 have lB:=hb.lt
 have NS:=lB
 have HU:=hide (And.intro hu hb)
 have HL:=hide hL
 have HKB:=hide hK
 have HS0:=hide hs
 generalize hhome:s.home=home at *
 clear hN hu hb hL hs
 go_enter Tryz.func79,Tryz.ntmps79
 go_wp2_with fail
 refine forgetW (fun V=>(Up w V∧Box V B #[sl,.int .i64 t] 98∧Up W V)∧Box V W.heap.size #[.slice a n c,.int .i64 home,.slice sa sn sc,.slice ca cn cc] 29∧Box V (W.heap.size+1) #[.int .i64 (px),.int .i64 (py)] 48∧Box V (W.heap.size+1+1) #[.int .i64 (0),.int .i64 (0),.int .i64 (0),.int .i64 (0),.int .i64 (0),.int .i64 (0),.int .i64 (0),.int .i64 (0),.int .i64 (0)] 155) ⟨⟨((HU.out.1.alloc _).alloc _).alloc _,((HU.out.2.alloc _).alloc _).alloc _,Up.go⟩,Box.go,Box.go,Box.go⟩ ?_
 rintro V ⟨⟨hu,hb,huW⟩,bs,bp,bz⟩
 have lsz:W.heap.size+1+1<V.heap.size:=bz.lt
 have HV:=hide (And.intro hu (And.intro hb (And.intro huW (And.intro bs (And.intro bp bz)))))
 have HVR:=hide (HR.out.ofUp huW)
 obtain ⟨s0,s1,s2,s3⟩:=bs.c4
 have ls:=bs.lt
 have nB1:W.heap.size≠B:=by omega
 have HS:=hide (Tris.at (HL.out.keeps (huW.keeps K)).st).2.2
 have HC:=hide (Tris.at (HL.out.keeps (huW.keeps K)).ca).2.2
 clear hu hb huW bs bp bz
 refine wp_region_float (al:=[(25,9,#[.int .i64 (0),.int .i64 (0),.int .i64 (0),.int .i64 (0),.int .i64 (0),.int .i64 (0),.int .i64 (0),.int .i64 (0),.int .i64 (0)],155)]) (mv:=fun k=>k==1 || k==10 || k==20) [26] [0,3,4,5,6,7,8,9,14,15,16,17,18,19,1,2,10,11,12,13,20,21,22,23,24] (by kernel_rfl) (by kernel_rfl) (makes1 ⟨_,rfl,rfl,fun _=>rfl,fun _ _=>by simp [go_sem]⟩) (cls_ring _ B (t+0)) (ringAt_drew (sl:=sl) (t:=t) (T:=98) HV.out.2.1 t0 (by omega)) (Nat.le_refl _) ?_
 simp only [withOps,List.filterMap_cons,List.filterMap_nil,List.getElem?_toArray,List.getElem?_cons_zero,List.getElem?_cons_succ,Option.map_some]
 (repeat (first | (apply walkF_pure (base:=ringBase _ _) rfl rfl rfl (by kernel_rfl);· (rintro ⟨tx,px⟩ K hK;unfold ringBase;dsimp only;go_big_quiet_op;first | exact hK | (apply Exists.intro;refine ⟨fun _=>?_,?_⟩;(· (fail));exact hK))) | (apply walkF_skip rfl;simp only [Act.put,List.setIfInBounds_toArray,List.set_cons_zero,List.set_cons_succ])))
 refine walkF_call _ _ (ring_call N1.out HV.out.1 HV.out.2.1 hB (by omega) (by omega)) (fun _ _=>cls_ring _ _ _) (by kernel_rfl) (by kernel_rfl) (fun _=>by simp [go_sem]) ?_
 rintro _ ⟨x,x0,x1,rfl⟩
 simp only [Act.put,List.setIfInBounds_toArray,List.set_cons_zero,List.set_cons_succ]
 (repeat (first | (apply walkF_pure (base:=ringBase _ _) rfl rfl rfl (by kernel_rfl);· (rintro ⟨tx,px⟩ K hK;unfold ringBase;dsimp only;go_big_quiet_op;first | exact hK | (apply Exists.intro;refine ⟨fun _=>?_,?_⟩;(· (fail));exact hK))) | (apply walkF_skip rfl;simp only [Act.put,List.setIfInBounds_toArray,List.set_cons_zero,List.set_cons_succ])))
 refine walkF_call _ _ (ring_call N2.out HV.out.1 HV.out.2.1 hB (by omega) (by omega)) (fun _ _=>cls_ring _ _ _) (by kernel_rfl) (by kernel_rfl) (fun _=>by simp [go_sem]) ?_
 rintro _ ⟨y,y0,y1,rfl⟩
 simp only [Act.put,List.setIfInBounds_toArray,List.set_cons_zero,List.set_cons_succ]
 obtain ⟨j,rfl⟩:=Int.eq_ofNat_of_zero_le y0
 have hjn:j<sn:=by omega
 have hjb:decide ((j:Int)<sn)=true:=by simp;omega
 have hjk:decide (j<sn)=true:=by simp;omega
 obtain ⟨b1,o1,st,ea,hk1,lb1,hst,hst64,d0,d1,d2⟩:=HS.out j hjn
 subst ea
 have n1:b1≠B:=hK b1 hk1
 (repeat (first | (apply walkF_pure (base:=ringBase _ _) rfl rfl rfl (by kernel_rfl);· (rintro ⟨tx,px⟩ K hK;unfold ringBase;dsimp only;go_big_quiet_op;first | exact hK | (apply Exists.intro;refine ⟨fun _=>?_,?_⟩;(· (fail));exact hK))) | (apply walkF_skip rfl;simp only [Act.put,List.setIfInBounds_toArray,List.set_cons_zero,List.set_cons_succ])))
 refine walkF_call _ _ (ring_call N3.out HV.out.1 HV.out.2.1 hB (by omega) (by omega)) (fun _ _=>cls_ring _ _ _) (by kernel_rfl) (by kernel_rfl) (fun _=>by simp [go_sem]) ?_
 rintro _ ⟨z,z0,z1,rfl⟩
 simp only [Act.put,List.setIfInBounds_toArray,List.set_cons_zero,List.set_cons_succ]
 obtain ⟨l,rfl⟩:=Int.eq_ofNat_of_zero_le z0
 have hln:l<cn:=by omega
 have hlb:decide ((l:Int)<cn)=true:=by simp;omega
 have hlk:decide (l<cn)=true:=by simp;omega
 obtain ⟨b2,o2,ct,ea,hk2,lb2,hct,hct64,e0,e1,e2⟩:=HC.out l hln
 subst ea
 have n2:b2≠B:=hK b2 hk2
 (repeat (first | (apply walkF_pure (base:=ringBase _ _) rfl rfl rfl (by kernel_rfl);· (rintro ⟨tx,px⟩ K hK;unfold ringBase;dsimp only;go_big_quiet_op;first | exact hK | (apply Exists.intro;refine ⟨fun _=>?_,?_⟩;(· (fail));exact hK))) | (apply walkF_skip rfl;simp only [Act.put,List.setIfInBounds_toArray,List.set_cons_zero,List.set_cons_succ])))
 refine walkF_nil (end1 (fun Q U hq hU bq=>?_))
 simp only [Act.put,List.setIfInBounds_toArray,List.set_cons_zero,List.set_cons_succ]
 (try simp only [List.filterMap_cons,List.filterMap_nil,List.getElem?_toArray,List.getElem?_cons_zero,List.getElem?_cons_succ])
 have hU3:RingAt V B (t+3) U:=by simpa [Int.add_assoc] using hU
 have HB:=hide (show SgS W B #[.slice a n c,.int .i64 home,.slice (some ⟨b1,o1,none⟩) sn sc,.slice (some ⟨b2,o2,none⟩) cn cc] px py Q (t+3) #[.int .i64 (0),.int .i64 (0),.int .i64 (0),.int .i64 (0),.int .i64 (0),.int .i64 (0),.int .i64 (0),.int .i64 (0),.int .i64 (0)] U from ⟨HVR.out.trans hU3 lB,bq,hU3.other HV.out.2.2.2.1 nB1,hU3.other HV.out.2.2.2.2.1 (by omega),hU3.other HV.out.2.2.2.2.2 (by omega)⟩)
 have NQ:W.heap.size+1+1<Q:=by omega
 have hqB:Q≠B:=by omega
 obtain ⟨wo1,wo2,hwo⟩:=(where_ok (t:=tick) HS0.out (by unfold withinB;simp;omega) (any_at hst)).choose_spec.choose_spec.2.2.2.2.2
 have HW1:=hide (fun V hV=>HW.out st.1 V hV)
 obtain ⟨ox,hox⟩:∃ x,(whereV s st.1 tick).1=x:=⟨_,rfl⟩
 obtain ⟨oy,hoy⟩:∃ x,(whereV s st.1 tick).2.1=x:=⟨_,rfl⟩
 obtain ⟨oz,hoz⟩:∃ x,(whereV s st.1 tick).2.2=x:=⟨_,rfl⟩
 rw [hox] at wo1 HW1
 rw [hoy] at wo2 hwo HW1
 rw [hoz] at HW1
 have HF:=hide (And.intro (any_at hst) (any_at hct))
 clear hU hU3 bq s0 s1 s2 s3 ls d0 d1 d2 e0 e1 e2 N1 N2 N3 n1 n2 hk1 hk2 lb1 lb2 hst hct HW HS HC HV HVR hox hoy hoz
 obtain ⟨q0,q1,q2,q3,q4,q5,q6,q7,q8⟩:=HB.out.q.c9
 obtain ⟨fq0,fq1,fq2,fq3,fq4,fq5,fq6,fq7,fq8⟩:=HB.out.q.f9
 have lq:=HB.out.q.lt
 obtain ⟨s0,s1,s2,s3⟩:=HB.out.s.c4
 have ls:=HB.out.s.lt
 go_wp2_with fail
 go_at_call 80
 refine forgetC (SgS W B #[.slice a n c,.int .i64 home,.slice (some ⟨b1,o1,none⟩) sn sc,.slice (some ⟨b2,o2,none⟩) cn cc] px py Q  (t+3) #[.int .i64 ((1+x)),.int .i64 (st.1),.int .i64 (ct.1),.int .i64 (tick),.int .i64 (0),.int .i64 (0),.int .i64 (0),.int .i64 (0),.int .i64 (0)]) (by (repeat (first|with_reducible apply SgS.ext|with_reducible apply SgS.alloc|with_reducible apply SgS.drew));exact HB.out.put NQ _ _ _ _ _ _ _ _ _) ?_
 intro U1 hU1
 have H1:=hide hU1
 clear q0 q1 q2 q3 q4 q5 q6 q7 q8 lq fq0 fq1 fq2 fq3 fq4 fq5 fq6 fq7 fq8 s0 s1 s2 s3 ls
 clear hU1
 refine (HW1.out _ (H1.out.keeps HKB.out)).mono ?_
 intro e1
 obtain ⟨q0,q1,q2,q3,q4,q5,q6,q7,q8⟩:=H1.out.q.c9
 obtain ⟨fq0,fq1,fq2,fq3,fq4,fq5,fq6,fq7,fq8⟩:=H1.out.q.f9
 have lq:=H1.out.q.lt
 obtain ⟨p0,p1⟩:=H1.out.p.c2
 have lp:=H1.out.p.lt
 go_wp2_with fail
 ((first | with_reducible refine wp_region_ext2 (by kernel_rfl) (by kernel_rfl) ?_ | refine wp_region_ext (by kernel_rfl) (by kernel_rfl) ?_);(repeat (go_big_quiet_step (fail)));refine wpQuiet_nil ?_;intro _ hw';obtain ⟨_,hw''⟩:=hw';subst hw'')
 go_wp2_with fail
 go_at_call 34
 refine forgetC (SgS W B #[.slice a n c,.int .i64 home,.slice (some ⟨b1,o1,none⟩) sn sc,.slice (some ⟨b2,o2,none⟩) cn cc] px py Q  (t+3) #[.int .i64 ((1+x)),.int .i64 (st.1),.int .i64 (ct.1),.int .i64 (tick),.int .i64 (0),.int .i64 (0),.int .i64 (0),.int .i64 (0),.int .i64 (0)]) (by (repeat (first|with_reducible apply SgS.ext|with_reducible apply SgS.alloc|with_reducible apply SgS.drew));exact H1.out) ?_
 intro U2 hU2
 have H2:=hide hU2
 clear q0 q1 q2 q3 q4 q5 q6 q7 q8 lq fq0 fq1 fq2 fq3 fq4 fq5 fq6 fq7 fq8 p0 p1 lp
 clear hU2
 refine (KN.out 40000 (by omega) (by omega) (t+3) _ H2.out.r (by omega)).mono ?_
 rintro _ U3 ⟨_,rfl,⟨er,er0,er1,rfl⟩,hRU3,hgU3⟩
 have H3:=hide (H2.out.grown hRU3 hgU3 NS NQ)
 clear hRU3 hgU3
 obtain ⟨q0,q1,q2,q3,q4,q5,q6,q7,q8⟩:=H3.out.q.c9
 obtain ⟨fq0,fq1,fq2,fq3,fq4,fq5,fq6,fq7,fq8⟩:=H3.out.q.f9
 have lq:=H3.out.q.lt
 go_wp2_with fail
 go_loopw [12,13] (fun s12 s13 wr=>∃ dx dy:Int,s12=.int .i64 dx∧s13=.int .i64 dy∧((-70000000≤dx∧dx≤70000000) ∧ -70000000≤dy∧dy≤70000000)∧Hid (SgS W B #[.slice a n c,.int .i64 home,.slice (some ⟨b1,o1,none⟩) sn sc,.slice (some ⟨b2,o2,none⟩) cn cc] px py Q  (t+3+1) #[.int .i64 ((1+x)),.int .i64 (st.1),.int .i64 (ct.1),.int .i64 (tick),.int .i64 (dx),.int .i64 (dy),.int .i64 (er),.int .i64 (0),.int .i64 (0)] wr)) (fun s12 s13 _=>(intOf s12).natAbs+(intOf s13).natAbs)
 case atStart=>exact ⟨_,_,rfl,rfl,by omega,hide (((H3.out.set NQ 4 (.int .i64 (px - ox))).set NQ 5 (.int .i64 (py - oy))).set NQ 6 (.int .i64 er))⟩
 case round =>
  obtain ⟨dx,dy,rfl,rfl,hb,HI⟩:=hrel
  clear q0 q1 q2 q3 q4 q5 q6 q7 q8 lq fq0 fq1 fq2 fq3 fq4 fq5 fq6 fq7 fq8
  obtain ⟨q0,q1,q2,q3,q4,q5,q6,q7,q8⟩:=HI.out.q.c9
  obtain ⟨fq0,fq1,fq2,fq3,fq4,fq5,fq6,fq7,fq8⟩:=HI.out.q.f9
  have lq:=HI.out.q.lt
  by_cases hh:halfOut dx dy
  · have hm:=half_less hh
    have g1:=half_bd hb.1 (by omega)
    have g2:=half_bd hb.2 (by omega)
    have hh':4096<dx∨(¬ 4096<dx∧4096 < -dx)∨(¬ 4096<dx∧¬ 4096 < -dx∧4096<dy)∨(¬ 4096<dx∧¬ 4096 < -dx∧¬ 4096<dy∧4096 < -dy):=by unfold halfOut at hh;omega
    clear hh
    rcases hh' with h | ⟨h,h'⟩ | ⟨h,h',h''⟩ | ⟨h,h',h'',h3⟩
    all_goals
     go_wp2_with fail
     go_roundw
     case rel=>exact ⟨_,_,rfl,rfl,by omega,hide ((HI.out.set NQ 4 (.int .i64 (dx.tdiv 2))).set NQ 5 (.int .i64 (dy.tdiv 2)))⟩
     case measure=>exact hm
  · have c1:¬ 4096<dx:=by unfold halfOut at hh;omega
    have c2:¬ 4096 < -dx:=by unfold halfOut at hh;omega
    have c3:¬ 4096<dy:=by unfold halfOut at hh;omega
    have c4:¬ 4096 < -dy:=by unfold halfOut at hh;omega
    clear hh
    have hz:(dx=0∧dy=0)∨¬ dx=0∨(dx=0∧¬ dy=0):=by omega
    rcases hz with ⟨rfl,rfl⟩ | hz | ⟨rfl,hz⟩
    · skip
      go_wp2_with fail
      go_at_call 34
      refine forgetC (SgS W B #[.slice a n c,.int .i64 home,.slice (some ⟨b1,o1,none⟩) sn sc,.slice (some ⟨b2,o2,none⟩) cn cc] px py Q  (t+3+1) #[.int .i64 ((1+x)),.int .i64 (st.1),.int .i64 (ct.1),.int .i64 (tick),.int .i64 (1),.int .i64 (0),.int .i64 (er),.int .i64 (0),.int .i64 (0)]) (by (repeat (first|with_reducible apply SgS.ext|with_reducible apply SgS.alloc|with_reducible apply SgS.drew));exact (HI.out.set NQ 4 (.int .i64 1))) ?_
      intro U4 hU4
      have H4:=hide hU4
      clear q0 q1 q2 q3 q4 q5 q6 q7 q8 lq fq0 fq1 fq2 fq3 fq4 fq5 fq6 fq7 fq8
      clear hU4
      refine (KN.out 1000 (by omega) (by omega) (t+3+1) _ H4.out.r (by omega)).mono ?_
      rintro _ U5 ⟨_,rfl,⟨lo,lo0,lo1,rfl⟩,hRU5,hgU5⟩
      have H5:=hide (H4.out.grown hRU5 hgU5 NS NQ)
      clear hRU5 hgU5
      obtain ⟨q0,q1,q2,q3,q4,q5,q6,q7,q8⟩:=H5.out.q.c9
      obtain ⟨fq0,fq1,fq2,fq3,fq4,fq5,fq6,fq7,fq8⟩:=H5.out.q.f9
      have lq:=H5.out.q.lt
      go_wp2_with fail
      refine forgetW (SgS W B #[.slice a n c,.int .i64 home,.slice (some ⟨b1,o1,none⟩) sn sc,.slice (some ⟨b2,o2,none⟩) cn cc] px py Q  (t+3+1+1) #[.int .i64 ((1+x)),.int .i64 (st.1),.int .i64 (ct.1),.int .i64 (tick),.int .i64 (1),.int .i64 (0),.int .i64 (er),.int .i64 (lo),.int .i64 (0)]) (by (repeat (first|with_reducible apply SgS.ext|with_reducible apply SgS.alloc|with_reducible apply SgS.drew));exact (H5.out.set NQ 7 (.int .i64 lo))) ?_
      intro U6 hU6
      have H6:=hide hU6
      clear q0 q1 q2 q3 q4 q5 q6 q7 q8 lq fq0 fq1 fq2 fq3 fq4 fq5 fq6 fq7 fq8
      clear hU6
      have hS0:=hide (show U6.drew.cell? ⟨Q,7,none⟩=some (.int .i64 lo) from H6.out.q.drew.cell 7 rfl)
      refine wp_region_L (fun W'=>W'.cell? ⟨Q,7,none⟩=some (.int .i64 lo)) 7 (by kernel_rfl) ?_
      refine anyL_take 0 (v:=(.pointer (some ⟨Q,7,none⟩))) rfl (by kernel_rfl) (fun _ _ _ h=>h) (.inl ⟨rfl,fun W' hW'=>by simp [go_sem]⟩) hS0.out ?_
      simp only [Act.put,List.setIfInBounds_toArray,List.set_cons_zero,List.set_cons_succ]
      refine anyL_take 1 (v:=(.int .i64 lo)) rfl (by kernel_rfl) (fun _ _ _ h=>h) (.inl ⟨rfl,fun W' hW'=>by simp [go_sem,hW']⟩) hS0.out ?_
      simp only [Act.put,List.setIfInBounds_toArray,List.set_cons_zero,List.set_cons_succ]
      refine anyL_take 2 (v:=(.pointer (some ⟨B,0,none⟩))) rfl (by kernel_rfl) (fun _ _ _ h=>h) (.inl ⟨rfl,fun W' hW'=>by simp [go_sem]⟩) hS0.out ?_
      simp only [Act.put,List.setIfInBounds_toArray,List.set_cons_zero,List.set_cons_succ]
      refine anyL_one (i:=3) (by kernel_rfl) rfl (fun K HK=>?_)
      go_wp2_with fail
      go_at_call 34
      refine (KN.out 6000 (by omega) (by omega) (t+3+1+1) _ H6.out.drew.r (by omega)).mono ?_
      rintro _ U7 ⟨_,rfl,⟨hi,hi0,hi1,rfl⟩,hR7,hg7⟩
      have H7:=hide (H6.out.drew.grown hR7 hg7 NS NQ)
      clear hR7 hg7
      obtain ⟨q0,q1,q2,q3,q4,q5,q6,q7,q8⟩:=H7.out.q.c9
      obtain ⟨fq0,fq1,fq2,fq3,fq4,fq5,fq6,fq7,fq8⟩:=H7.out.q.f9
      have lq:=H7.out.q.lt
      go_wp2_with fail
      refine HK.out _ _ (fun _=>q7) ?_
      clear HK
      refine anyL_one (i:=4) (by kernel_rfl) rfl (fun K HK=>?_)
      go_wp2_with fail
      refine HK.out _ _ (fun _=>q7) ?_
      clear HK
      refine anyL_one (i:=5) (by kernel_rfl) rfl (fun K HK=>?_)
      go_wp2_with fail
      refine HK.out _ _ (fun _=>q7) ?_
      clear HK
      refine anyL_one (i:=6) (by kernel_rfl) rfl (fun K HK=>?_)
      go_wp2_with fail
      refine HK.out _ _ (fun _=>q7) ?_
      clear HK
      refine anyL_one (i:=7) (by kernel_rfl) rfl (fun K HK=>?_)
      go_wp2_with fail
      refine HK.out _ _ (fun h=>(h rfl).elim) ?_
      clear HK
      refine anyL_done (by kernel_rfl) ?_
      refine forgetW (SgS W B #[.slice a n c,.int .i64 home,.slice (some ⟨b1,o1,none⟩) sn sc,.slice (some ⟨b2,o2,none⟩) cn cc] px py Q  (t+3+1+1+1) #[.int .i64 ((1+x)),.int .i64 (st.1),.int .i64 (ct.1),.int .i64 (tick),.int .i64 (1),.int .i64 (0),.int .i64 (er),.int .i64 (lo),.int .i64 ((lo+(1+hi)))]) (by (repeat (first|with_reducible apply SgS.ext|with_reducible apply SgS.alloc|with_reducible apply SgS.drew));exact (H7.out.set NQ 8 (.int .i64 (lo+(1+hi))))) ?_
      intro U8 hU8
      have H8:=hide hU8
      clear q0 q1 q2 q3 q4 q5 q6 q7 q8 lq fq0 fq1 fq2 fq3 fq4 fq5 fq6 fq7 fq8
      clear hU8
      by_cases hx2:x=2
      · subst hx2
        obtain ⟨q0,q1,q2,q3,q4,q5,q6,q7,q8⟩:=H8.out.q.c9
        obtain ⟨fq0,fq1,fq2,fq3,fq4,fq5,fq6,fq7,fq8⟩:=H8.out.q.f9
        have lq:=H8.out.q.lt
        go_wp2_with fail
        go_at_call 34
        refine forgetC (SgS W B #[.slice a n c,.int .i64 home,.slice (some ⟨b1,o1,none⟩) sn sc,.slice (some ⟨b2,o2,none⟩) cn cc] px py Q  (t+3+1+1+1) #[.int .i64 ((1+2)),.int .i64 (st.1),.int .i64 (ct.1),.int .i64 (tick),.int .i64 ((-0)),.int .i64 (1),.int .i64 (er),.int .i64 (lo),.int .i64 ((lo+(1+hi)))]) (by (repeat (first|with_reducible apply SgS.ext|with_reducible apply SgS.alloc|with_reducible apply SgS.drew));exact ((H8.out.set NQ 4 (.int .i64 (-0))).set NQ 5 (.int .i64 (1)))) ?_
        intro U9 hU9
        have H9:=hide hU9
        clear q0 q1 q2 q3 q4 q5 q6 q7 q8 lq fq0 fq1 fq2 fq3 fq4 fq5 fq6 fq7 fq8
        clear hU9
        refine (KN.out 3 (by omega) (by omega) (t+3+1+1+1) _ H9.out.r (by omega)).mono ?_
        rintro _ UA ⟨_,rfl,⟨zz,zz0,zz1,rfl⟩,hRUA,hgUA⟩
        have HA:=hide (H9.out.grown hRUA hgUA NS NQ)
        clear hRUA hgUA
        by_cases hzz:zz=0
        · subst hzz
          obtain ⟨q0,q1,q2,q3,q4,q5,q6,q7,q8⟩:=HA.out.q.c9
          obtain ⟨fq0,fq1,fq2,fq3,fq4,fq5,fq6,fq7,fq8⟩:=HA.out.q.f9
          have lq:=HA.out.q.lt
          go_wp2_with fail
          go_at_call 34
          refine forgetC (SgS W B #[.slice a n c,.int .i64 home,.slice (some ⟨b1,o1,none⟩) sn sc,.slice (some ⟨b2,o2,none⟩) cn cc] px py Q  (t+3+1+1+1+1) #[.int .i64 ((1+2)),.int .i64 (st.1),.int .i64 (ct.1),.int .i64 (tick),.int .i64 ((-0)),.int .i64 (1),.int .i64 (er),.int .i64 (lo),.int .i64 ((lo+(1+hi)))]) (by (repeat (first|with_reducible apply SgS.ext|with_reducible apply SgS.alloc|with_reducible apply SgS.drew));exact HA.out) ?_
          intro UB hUB
          have HBB:=hide hUB
          clear q0 q1 q2 q3 q4 q5 q6 q7 q8 lq fq0 fq1 fq2 fq3 fq4 fq5 fq6 fq7 fq8
          clear hUB
          refine (KN.out 300 (by omega) (by omega) (t+3+1+1+1+1) _ HBB.out.r (by omega)).mono ?_
          rintro _ UC ⟨_,rfl,⟨h2,h20,h21,rfl⟩,hRUC,hgUC⟩
          have HCC:=hide (HBB.out.grown hRUC hgUC NS NQ)
          clear hRUC hgUC
          obtain ⟨q0,q1,q2,q3,q4,q5,q6,q7,q8⟩:=HCC.out.q.c9
          obtain ⟨fq0,fq1,fq2,fq3,fq4,fq5,fq6,fq7,fq8⟩:=HCC.out.q.f9
          have lq:=HCC.out.q.lt
          obtain ⟨z0,z1,z2,z3,z4,z5,z6,z7,z8⟩:=HCC.out.z.c9
          obtain ⟨fz0,fz1,fz2,fz3,fz4,fz5,fz6,fz7,fz8⟩:=HCC.out.z.f9
          have lz:=HCC.out.z.lt
          go_wp2_with fail
          refine forgetW (fun WF=>RingAt W B (t+8) WF∧Box WF (W.heap.size+1+1) #[.int .i64 ((1+2)),.int .i64 (st.1),.int .i64 (ct.1),.int .i64 (tick),.int .i64 ((-0)),.int .i64 (1),.int .i64 (er),.int .i64 (lo),.int .i64 ((1+h2))] 155) ((HCC.out.set NQ 8 (.int .i64 (1+h2))).res _ _ _ _ _ _ _ _ _ (by omega) rfl) ?_
          clear q0 q1 q2 q3 q4 q5 q6 q7 q8 lq fq0 fq1 fq2 fq3 fq4 fq5 fq6 fq7 fq8 z0 z1 z2 z3 z4 z5 z6 z7 z8 fz0 fz1 fz2 fz3 fz4 fz5 fz6 fz7 fz8 lz
          rintro WF ⟨hRF,hbF⟩
          obtain ⟨z0,z1,z2,z3,z4,z5,z6,z7,z8⟩:=hbF.c9
          exact bodyPost_ret (v:=.agg #[.int .i64 ((1+2)),.int .i64 (st.1),.int .i64 (ct.1),.int .i64 (tick),.int .i64 ((-0)),.int .i64 (1),.int .i64 (er),.int .i64 (lo),.int .i64 ((1+h2))]) (by simp [results,Tryz.results79,go_sem,z0,z1,z2,z3,z4,z5,z6,z7,z8]) rfl (ring_at_out hRF (by omega) ⟨_,_,_,_,_,_,_,_,⟨by omega,by omega⟩,HF.out.1,HF.out.2,⟨⟨by omega,by omega⟩,⟨by omega,by omega⟩,by omega⟩,⟨by omega,by omega⟩,⟨by omega,by omega⟩,⟨by omega,by omega⟩,rfl⟩)
        · have hzb:(zz==0)=false:=by simp [hzz]
          obtain ⟨q0,q1,q2,q3,q4,q5,q6,q7,q8⟩:=HA.out.q.c9
          have lq:=HA.out.q.lt
          obtain ⟨z0,z1,z2,z3,z4,z5,z6,z7,z8⟩:=HA.out.z.c9
          obtain ⟨fz0,fz1,fz2,fz3,fz4,fz5,fz6,fz7,fz8⟩:=HA.out.z.f9
          have lz:=HA.out.z.lt
          go_wp2_with fail
          refine forgetW (fun WF=>RingAt W B (t+8) WF∧Box WF (W.heap.size+1+1) #[.int .i64 ((1+2)),.int .i64 (st.1),.int .i64 (ct.1),.int .i64 (tick),.int .i64 ((-0)),.int .i64 (1),.int .i64 (er),.int .i64 (lo),.int .i64 ((lo+(1+hi)))] 155) (HA.out.res _ _ _ _ _ _ _ _ _ (by omega) rfl) ?_
          clear q0 q1 q2 q3 q4 q5 q6 q7 q8 lq z0 z1 z2 z3 z4 z5 z6 z7 z8 fz0 fz1 fz2 fz3 fz4 fz5 fz6 fz7 fz8 lz
          rintro WF ⟨hRF,hbF⟩
          obtain ⟨z0,z1,z2,z3,z4,z5,z6,z7,z8⟩:=hbF.c9
          exact bodyPost_ret (v:=.agg #[.int .i64 ((1+2)),.int .i64 (st.1),.int .i64 (ct.1),.int .i64 (tick),.int .i64 ((-0)),.int .i64 (1),.int .i64 (er),.int .i64 (lo),.int .i64 ((lo+(1+hi)))]) (by simp [results,Tryz.results79,go_sem,z0,z1,z2,z3,z4,z5,z6,z7,z8]) rfl (ring_at_out hRF (by omega) ⟨_,_,_,_,_,_,_,_,⟨by omega,by omega⟩,HF.out.1,HF.out.2,⟨⟨by omega,by omega⟩,⟨by omega,by omega⟩,by omega⟩,⟨by omega,by omega⟩,⟨by omega,by omega⟩,⟨by omega,by omega⟩,rfl⟩)
      · have hx3:¬ 1+x=3:=by omega
        obtain ⟨q0,q1,q2,q3,q4,q5,q6,q7,q8⟩:=H8.out.q.c9
        have lq:=H8.out.q.lt
        obtain ⟨z0,z1,z2,z3,z4,z5,z6,z7,z8⟩:=H8.out.z.c9
        obtain ⟨fz0,fz1,fz2,fz3,fz4,fz5,fz6,fz7,fz8⟩:=H8.out.z.f9
        have lz:=H8.out.z.lt
        go_wp2_with fail
        refine forgetW (fun WF=>RingAt W B (t+8) WF∧Box WF (W.heap.size+1+1) #[.int .i64 ((1+x)),.int .i64 (st.1),.int .i64 (ct.1),.int .i64 (tick),.int .i64 (1),.int .i64 (0),.int .i64 (er),.int .i64 (lo),.int .i64 ((lo+(1+hi)))] 155) (H8.out.res _ _ _ _ _ _ _ _ _ (by omega) rfl) ?_
        clear q0 q1 q2 q3 q4 q5 q6 q7 q8 lq z0 z1 z2 z3 z4 z5 z6 z7 z8 fz0 fz1 fz2 fz3 fz4 fz5 fz6 fz7 fz8 lz
        rintro WF ⟨hRF,hbF⟩
        obtain ⟨z0,z1,z2,z3,z4,z5,z6,z7,z8⟩:=hbF.c9
        exact bodyPost_ret (v:=.agg #[.int .i64 ((1+x)),.int .i64 (st.1),.int .i64 (ct.1),.int .i64 (tick),.int .i64 (1),.int .i64 (0),.int .i64 (er),.int .i64 (lo),.int .i64 ((lo+(1+hi)))]) (by simp [results,Tryz.results79,go_sem,z0,z1,z2,z3,z4,z5,z6,z7,z8]) rfl (ring_at_out hRF (by omega) ⟨_,_,_,_,_,_,_,_,⟨by omega,by omega⟩,HF.out.1,HF.out.2,⟨⟨by omega,by omega⟩,⟨by omega,by omega⟩,by omega⟩,⟨by omega,by omega⟩,⟨by omega,by omega⟩,⟨by omega,by omega⟩,rfl⟩)
    · skip
      go_wp2_with fail
      go_at_call 34
      refine forgetC (SgS W B #[.slice a n c,.int .i64 home,.slice (some ⟨b1,o1,none⟩) sn sc,.slice (some ⟨b2,o2,none⟩) cn cc] px py Q  (t+3+1) #[.int .i64 ((1+x)),.int .i64 (st.1),.int .i64 (ct.1),.int .i64 (tick),.int .i64 (dx),.int .i64 (dy),.int .i64 (er),.int .i64 (0),.int .i64 (0)]) (by (repeat (first|with_reducible apply SgS.ext|with_reducible apply SgS.alloc|with_reducible apply SgS.drew));exact HI.out) ?_
      intro U4 hU4
      have H4:=hide hU4
      clear q0 q1 q2 q3 q4 q5 q6 q7 q8 lq fq0 fq1 fq2 fq3 fq4 fq5 fq6 fq7 fq8
      clear hU4
      refine (KN.out 1000 (by omega) (by omega) (t+3+1) _ H4.out.r (by omega)).mono ?_
      rintro _ U5 ⟨_,rfl,⟨lo,lo0,lo1,rfl⟩,hRU5,hgU5⟩
      have H5:=hide (H4.out.grown hRU5 hgU5 NS NQ)
      clear hRU5 hgU5
      obtain ⟨q0,q1,q2,q3,q4,q5,q6,q7,q8⟩:=H5.out.q.c9
      obtain ⟨fq0,fq1,fq2,fq3,fq4,fq5,fq6,fq7,fq8⟩:=H5.out.q.f9
      have lq:=H5.out.q.lt
      go_wp2_with fail
      refine forgetW (SgS W B #[.slice a n c,.int .i64 home,.slice (some ⟨b1,o1,none⟩) sn sc,.slice (some ⟨b2,o2,none⟩) cn cc] px py Q  (t+3+1+1) #[.int .i64 ((1+x)),.int .i64 (st.1),.int .i64 (ct.1),.int .i64 (tick),.int .i64 (dx),.int .i64 (dy),.int .i64 (er),.int .i64 (lo),.int .i64 (0)]) (by (repeat (first|with_reducible apply SgS.ext|with_reducible apply SgS.alloc|with_reducible apply SgS.drew));exact (H5.out.set NQ 7 (.int .i64 lo))) ?_
      intro U6 hU6
      have H6:=hide hU6
      clear q0 q1 q2 q3 q4 q5 q6 q7 q8 lq fq0 fq1 fq2 fq3 fq4 fq5 fq6 fq7 fq8
      clear hU6
      have hS0:=hide (show U6.drew.cell? ⟨Q,7,none⟩=some (.int .i64 lo) from H6.out.q.drew.cell 7 rfl)
      refine wp_region_L (fun W'=>W'.cell? ⟨Q,7,none⟩=some (.int .i64 lo)) 7 (by kernel_rfl) ?_
      refine anyL_take 0 (v:=(.pointer (some ⟨Q,7,none⟩))) rfl (by kernel_rfl) (fun _ _ _ h=>h) (.inl ⟨rfl,fun W' hW'=>by simp [go_sem]⟩) hS0.out ?_
      simp only [Act.put,List.setIfInBounds_toArray,List.set_cons_zero,List.set_cons_succ]
      refine anyL_take 1 (v:=(.int .i64 lo)) rfl (by kernel_rfl) (fun _ _ _ h=>h) (.inl ⟨rfl,fun W' hW'=>by simp [go_sem,hW']⟩) hS0.out ?_
      simp only [Act.put,List.setIfInBounds_toArray,List.set_cons_zero,List.set_cons_succ]
      refine anyL_take 2 (v:=(.pointer (some ⟨B,0,none⟩))) rfl (by kernel_rfl) (fun _ _ _ h=>h) (.inl ⟨rfl,fun W' hW'=>by simp [go_sem]⟩) hS0.out ?_
      simp only [Act.put,List.setIfInBounds_toArray,List.set_cons_zero,List.set_cons_succ]
      refine anyL_one (i:=3) (by kernel_rfl) rfl (fun K HK=>?_)
      go_wp2_with fail
      go_at_call 34
      refine (KN.out 6000 (by omega) (by omega) (t+3+1+1) _ H6.out.drew.r (by omega)).mono ?_
      rintro _ U7 ⟨_,rfl,⟨hi,hi0,hi1,rfl⟩,hR7,hg7⟩
      have H7:=hide (H6.out.drew.grown hR7 hg7 NS NQ)
      clear hR7 hg7
      obtain ⟨q0,q1,q2,q3,q4,q5,q6,q7,q8⟩:=H7.out.q.c9
      obtain ⟨fq0,fq1,fq2,fq3,fq4,fq5,fq6,fq7,fq8⟩:=H7.out.q.f9
      have lq:=H7.out.q.lt
      go_wp2_with fail
      refine HK.out _ _ (fun _=>q7) ?_
      clear HK
      refine anyL_one (i:=4) (by kernel_rfl) rfl (fun K HK=>?_)
      go_wp2_with fail
      refine HK.out _ _ (fun _=>q7) ?_
      clear HK
      refine anyL_one (i:=5) (by kernel_rfl) rfl (fun K HK=>?_)
      go_wp2_with fail
      refine HK.out _ _ (fun _=>q7) ?_
      clear HK
      refine anyL_one (i:=6) (by kernel_rfl) rfl (fun K HK=>?_)
      go_wp2_with fail
      refine HK.out _ _ (fun _=>q7) ?_
      clear HK
      refine anyL_one (i:=7) (by kernel_rfl) rfl (fun K HK=>?_)
      go_wp2_with fail
      refine HK.out _ _ (fun h=>(h rfl).elim) ?_
      clear HK
      refine anyL_done (by kernel_rfl) ?_
      refine forgetW (SgS W B #[.slice a n c,.int .i64 home,.slice (some ⟨b1,o1,none⟩) sn sc,.slice (some ⟨b2,o2,none⟩) cn cc] px py Q  (t+3+1+1+1) #[.int .i64 ((1+x)),.int .i64 (st.1),.int .i64 (ct.1),.int .i64 (tick),.int .i64 (dx),.int .i64 (dy),.int .i64 (er),.int .i64 (lo),.int .i64 ((lo+(1+hi)))]) (by (repeat (first|with_reducible apply SgS.ext|with_reducible apply SgS.alloc|with_reducible apply SgS.drew));exact (H7.out.set NQ 8 (.int .i64 (lo+(1+hi))))) ?_
      intro U8 hU8
      have H8:=hide hU8
      clear q0 q1 q2 q3 q4 q5 q6 q7 q8 lq fq0 fq1 fq2 fq3 fq4 fq5 fq6 fq7 fq8
      clear hU8
      by_cases hx2:x=2
      · subst hx2
        obtain ⟨q0,q1,q2,q3,q4,q5,q6,q7,q8⟩:=H8.out.q.c9
        obtain ⟨fq0,fq1,fq2,fq3,fq4,fq5,fq6,fq7,fq8⟩:=H8.out.q.f9
        have lq:=H8.out.q.lt
        go_wp2_with fail
        go_at_call 34
        refine forgetC (SgS W B #[.slice a n c,.int .i64 home,.slice (some ⟨b1,o1,none⟩) sn sc,.slice (some ⟨b2,o2,none⟩) cn cc] px py Q  (t+3+1+1+1) #[.int .i64 ((1+2)),.int .i64 (st.1),.int .i64 (ct.1),.int .i64 (tick),.int .i64 ((-dy)),.int .i64 (dx),.int .i64 (er),.int .i64 (lo),.int .i64 ((lo+(1+hi)))]) (by (repeat (first|with_reducible apply SgS.ext|with_reducible apply SgS.alloc|with_reducible apply SgS.drew));exact ((H8.out.set NQ 4 (.int .i64 (-dy))).set NQ 5 (.int .i64 (dx)))) ?_
        intro U9 hU9
        have H9:=hide hU9
        clear q0 q1 q2 q3 q4 q5 q6 q7 q8 lq fq0 fq1 fq2 fq3 fq4 fq5 fq6 fq7 fq8
        clear hU9
        refine (KN.out 3 (by omega) (by omega) (t+3+1+1+1) _ H9.out.r (by omega)).mono ?_
        rintro _ UA ⟨_,rfl,⟨zz,zz0,zz1,rfl⟩,hRUA,hgUA⟩
        have HA:=hide (H9.out.grown hRUA hgUA NS NQ)
        clear hRUA hgUA
        by_cases hzz:zz=0
        · subst hzz
          obtain ⟨q0,q1,q2,q3,q4,q5,q6,q7,q8⟩:=HA.out.q.c9
          obtain ⟨fq0,fq1,fq2,fq3,fq4,fq5,fq6,fq7,fq8⟩:=HA.out.q.f9
          have lq:=HA.out.q.lt
          go_wp2_with fail
          go_at_call 34
          refine forgetC (SgS W B #[.slice a n c,.int .i64 home,.slice (some ⟨b1,o1,none⟩) sn sc,.slice (some ⟨b2,o2,none⟩) cn cc] px py Q  (t+3+1+1+1+1) #[.int .i64 ((1+2)),.int .i64 (st.1),.int .i64 (ct.1),.int .i64 (tick),.int .i64 ((-dy)),.int .i64 (dx),.int .i64 (er),.int .i64 (lo),.int .i64 ((lo+(1+hi)))]) (by (repeat (first|with_reducible apply SgS.ext|with_reducible apply SgS.alloc|with_reducible apply SgS.drew));exact HA.out) ?_
          intro UB hUB
          have HBB:=hide hUB
          clear q0 q1 q2 q3 q4 q5 q6 q7 q8 lq fq0 fq1 fq2 fq3 fq4 fq5 fq6 fq7 fq8
          clear hUB
          refine (KN.out 300 (by omega) (by omega) (t+3+1+1+1+1) _ HBB.out.r (by omega)).mono ?_
          rintro _ UC ⟨_,rfl,⟨h2,h20,h21,rfl⟩,hRUC,hgUC⟩
          have HCC:=hide (HBB.out.grown hRUC hgUC NS NQ)
          clear hRUC hgUC
          obtain ⟨q0,q1,q2,q3,q4,q5,q6,q7,q8⟩:=HCC.out.q.c9
          obtain ⟨fq0,fq1,fq2,fq3,fq4,fq5,fq6,fq7,fq8⟩:=HCC.out.q.f9
          have lq:=HCC.out.q.lt
          obtain ⟨z0,z1,z2,z3,z4,z5,z6,z7,z8⟩:=HCC.out.z.c9
          obtain ⟨fz0,fz1,fz2,fz3,fz4,fz5,fz6,fz7,fz8⟩:=HCC.out.z.f9
          have lz:=HCC.out.z.lt
          go_wp2_with fail
          refine forgetW (fun WF=>RingAt W B (t+8) WF∧Box WF (W.heap.size+1+1) #[.int .i64 ((1+2)),.int .i64 (st.1),.int .i64 (ct.1),.int .i64 (tick),.int .i64 ((-dy)),.int .i64 (dx),.int .i64 (er),.int .i64 (lo),.int .i64 ((1+h2))] 155) ((HCC.out.set NQ 8 (.int .i64 (1+h2))).res _ _ _ _ _ _ _ _ _ (by omega) rfl) ?_
          clear q0 q1 q2 q3 q4 q5 q6 q7 q8 lq fq0 fq1 fq2 fq3 fq4 fq5 fq6 fq7 fq8 z0 z1 z2 z3 z4 z5 z6 z7 z8 fz0 fz1 fz2 fz3 fz4 fz5 fz6 fz7 fz8 lz
          rintro WF ⟨hRF,hbF⟩
          obtain ⟨z0,z1,z2,z3,z4,z5,z6,z7,z8⟩:=hbF.c9
          exact bodyPost_ret (v:=.agg #[.int .i64 ((1+2)),.int .i64 (st.1),.int .i64 (ct.1),.int .i64 (tick),.int .i64 ((-dy)),.int .i64 (dx),.int .i64 (er),.int .i64 (lo),.int .i64 ((1+h2))]) (by simp [results,Tryz.results79,go_sem,z0,z1,z2,z3,z4,z5,z6,z7,z8]) rfl (ring_at_out hRF (by omega) ⟨_,_,_,_,_,_,_,_,⟨by omega,by omega⟩,HF.out.1,HF.out.2,⟨⟨by omega,by omega⟩,⟨by omega,by omega⟩,by omega⟩,⟨by omega,by omega⟩,⟨by omega,by omega⟩,⟨by omega,by omega⟩,rfl⟩)
        · have hzb:(zz==0)=false:=by simp [hzz]
          obtain ⟨q0,q1,q2,q3,q4,q5,q6,q7,q8⟩:=HA.out.q.c9
          have lq:=HA.out.q.lt
          obtain ⟨z0,z1,z2,z3,z4,z5,z6,z7,z8⟩:=HA.out.z.c9
          obtain ⟨fz0,fz1,fz2,fz3,fz4,fz5,fz6,fz7,fz8⟩:=HA.out.z.f9
          have lz:=HA.out.z.lt
          go_wp2_with fail
          refine forgetW (fun WF=>RingAt W B (t+8) WF∧Box WF (W.heap.size+1+1) #[.int .i64 ((1+2)),.int .i64 (st.1),.int .i64 (ct.1),.int .i64 (tick),.int .i64 ((-dy)),.int .i64 (dx),.int .i64 (er),.int .i64 (lo),.int .i64 ((lo+(1+hi)))] 155) (HA.out.res _ _ _ _ _ _ _ _ _ (by omega) rfl) ?_
          clear q0 q1 q2 q3 q4 q5 q6 q7 q8 lq z0 z1 z2 z3 z4 z5 z6 z7 z8 fz0 fz1 fz2 fz3 fz4 fz5 fz6 fz7 fz8 lz
          rintro WF ⟨hRF,hbF⟩
          obtain ⟨z0,z1,z2,z3,z4,z5,z6,z7,z8⟩:=hbF.c9
          exact bodyPost_ret (v:=.agg #[.int .i64 ((1+2)),.int .i64 (st.1),.int .i64 (ct.1),.int .i64 (tick),.int .i64 ((-dy)),.int .i64 (dx),.int .i64 (er),.int .i64 (lo),.int .i64 ((lo+(1+hi)))]) (by simp [results,Tryz.results79,go_sem,z0,z1,z2,z3,z4,z5,z6,z7,z8]) rfl (ring_at_out hRF (by omega) ⟨_,_,_,_,_,_,_,_,⟨by omega,by omega⟩,HF.out.1,HF.out.2,⟨⟨by omega,by omega⟩,⟨by omega,by omega⟩,by omega⟩,⟨by omega,by omega⟩,⟨by omega,by omega⟩,⟨by omega,by omega⟩,rfl⟩)
      · have hx3:¬ 1+x=3:=by omega
        obtain ⟨q0,q1,q2,q3,q4,q5,q6,q7,q8⟩:=H8.out.q.c9
        have lq:=H8.out.q.lt
        obtain ⟨z0,z1,z2,z3,z4,z5,z6,z7,z8⟩:=H8.out.z.c9
        obtain ⟨fz0,fz1,fz2,fz3,fz4,fz5,fz6,fz7,fz8⟩:=H8.out.z.f9
        have lz:=H8.out.z.lt
        go_wp2_with fail
        refine forgetW (fun WF=>RingAt W B (t+8) WF∧Box WF (W.heap.size+1+1) #[.int .i64 ((1+x)),.int .i64 (st.1),.int .i64 (ct.1),.int .i64 (tick),.int .i64 (dx),.int .i64 (dy),.int .i64 (er),.int .i64 (lo),.int .i64 ((lo+(1+hi)))] 155) (H8.out.res _ _ _ _ _ _ _ _ _ (by omega) rfl) ?_
        clear q0 q1 q2 q3 q4 q5 q6 q7 q8 lq z0 z1 z2 z3 z4 z5 z6 z7 z8 fz0 fz1 fz2 fz3 fz4 fz5 fz6 fz7 fz8 lz
        rintro WF ⟨hRF,hbF⟩
        obtain ⟨z0,z1,z2,z3,z4,z5,z6,z7,z8⟩:=hbF.c9
        exact bodyPost_ret (v:=.agg #[.int .i64 ((1+x)),.int .i64 (st.1),.int .i64 (ct.1),.int .i64 (tick),.int .i64 (dx),.int .i64 (dy),.int .i64 (er),.int .i64 (lo),.int .i64 ((lo+(1+hi)))]) (by simp [results,Tryz.results79,go_sem,z0,z1,z2,z3,z4,z5,z6,z7,z8]) rfl (ring_at_out hRF (by omega) ⟨_,_,_,_,_,_,_,_,⟨by omega,by omega⟩,HF.out.1,HF.out.2,⟨⟨by omega,by omega⟩,⟨by omega,by omega⟩,by omega⟩,⟨by omega,by omega⟩,⟨by omega,by omega⟩,⟨by omega,by omega⟩,rfl⟩)
    · skip
      go_wp2_with fail
      go_at_call 34
      refine forgetC (SgS W B #[.slice a n c,.int .i64 home,.slice (some ⟨b1,o1,none⟩) sn sc,.slice (some ⟨b2,o2,none⟩) cn cc] px py Q  (t+3+1) #[.int .i64 ((1+x)),.int .i64 (st.1),.int .i64 (ct.1),.int .i64 (tick),.int .i64 (0),.int .i64 (dy),.int .i64 (er),.int .i64 (0),.int .i64 (0)]) (by (repeat (first|with_reducible apply SgS.ext|with_reducible apply SgS.alloc|with_reducible apply SgS.drew));exact HI.out) ?_
      intro U4 hU4
      have H4:=hide hU4
      clear q0 q1 q2 q3 q4 q5 q6 q7 q8 lq fq0 fq1 fq2 fq3 fq4 fq5 fq6 fq7 fq8
      clear hU4
      refine (KN.out 1000 (by omega) (by omega) (t+3+1) _ H4.out.r (by omega)).mono ?_
      rintro _ U5 ⟨_,rfl,⟨lo,lo0,lo1,rfl⟩,hRU5,hgU5⟩
      have H5:=hide (H4.out.grown hRU5 hgU5 NS NQ)
      clear hRU5 hgU5
      obtain ⟨q0,q1,q2,q3,q4,q5,q6,q7,q8⟩:=H5.out.q.c9
      obtain ⟨fq0,fq1,fq2,fq3,fq4,fq5,fq6,fq7,fq8⟩:=H5.out.q.f9
      have lq:=H5.out.q.lt
      go_wp2_with fail
      refine forgetW (SgS W B #[.slice a n c,.int .i64 home,.slice (some ⟨b1,o1,none⟩) sn sc,.slice (some ⟨b2,o2,none⟩) cn cc] px py Q  (t+3+1+1) #[.int .i64 ((1+x)),.int .i64 (st.1),.int .i64 (ct.1),.int .i64 (tick),.int .i64 (0),.int .i64 (dy),.int .i64 (er),.int .i64 (lo),.int .i64 (0)]) (by (repeat (first|with_reducible apply SgS.ext|with_reducible apply SgS.alloc|with_reducible apply SgS.drew));exact (H5.out.set NQ 7 (.int .i64 lo))) ?_
      intro U6 hU6
      have H6:=hide hU6
      clear q0 q1 q2 q3 q4 q5 q6 q7 q8 lq fq0 fq1 fq2 fq3 fq4 fq5 fq6 fq7 fq8
      clear hU6
      have hS0:=hide (show U6.drew.cell? ⟨Q,7,none⟩=some (.int .i64 lo) from H6.out.q.drew.cell 7 rfl)
      refine wp_region_L (fun W'=>W'.cell? ⟨Q,7,none⟩=some (.int .i64 lo)) 7 (by kernel_rfl) ?_
      refine anyL_take 0 (v:=(.pointer (some ⟨Q,7,none⟩))) rfl (by kernel_rfl) (fun _ _ _ h=>h) (.inl ⟨rfl,fun W' hW'=>by simp [go_sem]⟩) hS0.out ?_
      simp only [Act.put,List.setIfInBounds_toArray,List.set_cons_zero,List.set_cons_succ]
      refine anyL_take 1 (v:=(.int .i64 lo)) rfl (by kernel_rfl) (fun _ _ _ h=>h) (.inl ⟨rfl,fun W' hW'=>by simp [go_sem,hW']⟩) hS0.out ?_
      simp only [Act.put,List.setIfInBounds_toArray,List.set_cons_zero,List.set_cons_succ]
      refine anyL_take 2 (v:=(.pointer (some ⟨B,0,none⟩))) rfl (by kernel_rfl) (fun _ _ _ h=>h) (.inl ⟨rfl,fun W' hW'=>by simp [go_sem]⟩) hS0.out ?_
      simp only [Act.put,List.setIfInBounds_toArray,List.set_cons_zero,List.set_cons_succ]
      refine anyL_one (i:=3) (by kernel_rfl) rfl (fun K HK=>?_)
      go_wp2_with fail
      go_at_call 34
      refine (KN.out 6000 (by omega) (by omega) (t+3+1+1) _ H6.out.drew.r (by omega)).mono ?_
      rintro _ U7 ⟨_,rfl,⟨hi,hi0,hi1,rfl⟩,hR7,hg7⟩
      have H7:=hide (H6.out.drew.grown hR7 hg7 NS NQ)
      clear hR7 hg7
      obtain ⟨q0,q1,q2,q3,q4,q5,q6,q7,q8⟩:=H7.out.q.c9
      obtain ⟨fq0,fq1,fq2,fq3,fq4,fq5,fq6,fq7,fq8⟩:=H7.out.q.f9
      have lq:=H7.out.q.lt
      go_wp2_with fail
      refine HK.out _ _ (fun _=>q7) ?_
      clear HK
      refine anyL_one (i:=4) (by kernel_rfl) rfl (fun K HK=>?_)
      go_wp2_with fail
      refine HK.out _ _ (fun _=>q7) ?_
      clear HK
      refine anyL_one (i:=5) (by kernel_rfl) rfl (fun K HK=>?_)
      go_wp2_with fail
      refine HK.out _ _ (fun _=>q7) ?_
      clear HK
      refine anyL_one (i:=6) (by kernel_rfl) rfl (fun K HK=>?_)
      go_wp2_with fail
      refine HK.out _ _ (fun _=>q7) ?_
      clear HK
      refine anyL_one (i:=7) (by kernel_rfl) rfl (fun K HK=>?_)
      go_wp2_with fail
      refine HK.out _ _ (fun h=>(h rfl).elim) ?_
      clear HK
      refine anyL_done (by kernel_rfl) ?_
      refine forgetW (SgS W B #[.slice a n c,.int .i64 home,.slice (some ⟨b1,o1,none⟩) sn sc,.slice (some ⟨b2,o2,none⟩) cn cc] px py Q  (t+3+1+1+1) #[.int .i64 ((1+x)),.int .i64 (st.1),.int .i64 (ct.1),.int .i64 (tick),.int .i64 (0),.int .i64 (dy),.int .i64 (er),.int .i64 (lo),.int .i64 ((lo+(1+hi)))]) (by (repeat (first|with_reducible apply SgS.ext|with_reducible apply SgS.alloc|with_reducible apply SgS.drew));exact (H7.out.set NQ 8 (.int .i64 (lo+(1+hi))))) ?_
      intro U8 hU8
      have H8:=hide hU8
      clear q0 q1 q2 q3 q4 q5 q6 q7 q8 lq fq0 fq1 fq2 fq3 fq4 fq5 fq6 fq7 fq8
      clear hU8
      by_cases hx2:x=2
      · subst hx2
        obtain ⟨q0,q1,q2,q3,q4,q5,q6,q7,q8⟩:=H8.out.q.c9
        obtain ⟨fq0,fq1,fq2,fq3,fq4,fq5,fq6,fq7,fq8⟩:=H8.out.q.f9
        have lq:=H8.out.q.lt
        go_wp2_with fail
        go_at_call 34
        refine forgetC (SgS W B #[.slice a n c,.int .i64 home,.slice (some ⟨b1,o1,none⟩) sn sc,.slice (some ⟨b2,o2,none⟩) cn cc] px py Q  (t+3+1+1+1) #[.int .i64 ((1+2)),.int .i64 (st.1),.int .i64 (ct.1),.int .i64 (tick),.int .i64 ((-dy)),.int .i64 (0),.int .i64 (er),.int .i64 (lo),.int .i64 ((lo+(1+hi)))]) (by (repeat (first|with_reducible apply SgS.ext|with_reducible apply SgS.alloc|with_reducible apply SgS.drew));exact ((H8.out.set NQ 4 (.int .i64 (-dy))).set NQ 5 (.int .i64 (0)))) ?_
        intro U9 hU9
        have H9:=hide hU9
        clear q0 q1 q2 q3 q4 q5 q6 q7 q8 lq fq0 fq1 fq2 fq3 fq4 fq5 fq6 fq7 fq8
        clear hU9
        refine (KN.out 3 (by omega) (by omega) (t+3+1+1+1) _ H9.out.r (by omega)).mono ?_
        rintro _ UA ⟨_,rfl,⟨zz,zz0,zz1,rfl⟩,hRUA,hgUA⟩
        have HA:=hide (H9.out.grown hRUA hgUA NS NQ)
        clear hRUA hgUA
        by_cases hzz:zz=0
        · subst hzz
          obtain ⟨q0,q1,q2,q3,q4,q5,q6,q7,q8⟩:=HA.out.q.c9
          obtain ⟨fq0,fq1,fq2,fq3,fq4,fq5,fq6,fq7,fq8⟩:=HA.out.q.f9
          have lq:=HA.out.q.lt
          go_wp2_with fail
          go_at_call 34
          refine forgetC (SgS W B #[.slice a n c,.int .i64 home,.slice (some ⟨b1,o1,none⟩) sn sc,.slice (some ⟨b2,o2,none⟩) cn cc] px py Q  (t+3+1+1+1+1) #[.int .i64 ((1+2)),.int .i64 (st.1),.int .i64 (ct.1),.int .i64 (tick),.int .i64 ((-dy)),.int .i64 (0),.int .i64 (er),.int .i64 (lo),.int .i64 ((lo+(1+hi)))]) (by (repeat (first|with_reducible apply SgS.ext|with_reducible apply SgS.alloc|with_reducible apply SgS.drew));exact HA.out) ?_
          intro UB hUB
          have HBB:=hide hUB
          clear q0 q1 q2 q3 q4 q5 q6 q7 q8 lq fq0 fq1 fq2 fq3 fq4 fq5 fq6 fq7 fq8
          clear hUB
          refine (KN.out 300 (by omega) (by omega) (t+3+1+1+1+1) _ HBB.out.r (by omega)).mono ?_
          rintro _ UC ⟨_,rfl,⟨h2,h20,h21,rfl⟩,hRUC,hgUC⟩
          have HCC:=hide (HBB.out.grown hRUC hgUC NS NQ)
          clear hRUC hgUC
          obtain ⟨q0,q1,q2,q3,q4,q5,q6,q7,q8⟩:=HCC.out.q.c9
          obtain ⟨fq0,fq1,fq2,fq3,fq4,fq5,fq6,fq7,fq8⟩:=HCC.out.q.f9
          have lq:=HCC.out.q.lt
          obtain ⟨z0,z1,z2,z3,z4,z5,z6,z7,z8⟩:=HCC.out.z.c9
          obtain ⟨fz0,fz1,fz2,fz3,fz4,fz5,fz6,fz7,fz8⟩:=HCC.out.z.f9
          have lz:=HCC.out.z.lt
          go_wp2_with fail
          refine forgetW (fun WF=>RingAt W B (t+8) WF∧Box WF (W.heap.size+1+1) #[.int .i64 ((1+2)),.int .i64 (st.1),.int .i64 (ct.1),.int .i64 (tick),.int .i64 ((-dy)),.int .i64 (0),.int .i64 (er),.int .i64 (lo),.int .i64 ((1+h2))] 155) ((HCC.out.set NQ 8 (.int .i64 (1+h2))).res _ _ _ _ _ _ _ _ _ (by omega) rfl) ?_
          clear q0 q1 q2 q3 q4 q5 q6 q7 q8 lq fq0 fq1 fq2 fq3 fq4 fq5 fq6 fq7 fq8 z0 z1 z2 z3 z4 z5 z6 z7 z8 fz0 fz1 fz2 fz3 fz4 fz5 fz6 fz7 fz8 lz
          rintro WF ⟨hRF,hbF⟩
          obtain ⟨z0,z1,z2,z3,z4,z5,z6,z7,z8⟩:=hbF.c9
          exact bodyPost_ret (v:=.agg #[.int .i64 ((1+2)),.int .i64 (st.1),.int .i64 (ct.1),.int .i64 (tick),.int .i64 ((-dy)),.int .i64 (0),.int .i64 (er),.int .i64 (lo),.int .i64 ((1+h2))]) (by simp [results,Tryz.results79,go_sem,z0,z1,z2,z3,z4,z5,z6,z7,z8]) rfl (ring_at_out hRF (by omega) ⟨_,_,_,_,_,_,_,_,⟨by omega,by omega⟩,HF.out.1,HF.out.2,⟨⟨by omega,by omega⟩,⟨by omega,by omega⟩,by omega⟩,⟨by omega,by omega⟩,⟨by omega,by omega⟩,⟨by omega,by omega⟩,rfl⟩)
        · have hzb:(zz==0)=false:=by simp [hzz]
          obtain ⟨q0,q1,q2,q3,q4,q5,q6,q7,q8⟩:=HA.out.q.c9
          have lq:=HA.out.q.lt
          obtain ⟨z0,z1,z2,z3,z4,z5,z6,z7,z8⟩:=HA.out.z.c9
          obtain ⟨fz0,fz1,fz2,fz3,fz4,fz5,fz6,fz7,fz8⟩:=HA.out.z.f9
          have lz:=HA.out.z.lt
          go_wp2_with fail
          refine forgetW (fun WF=>RingAt W B (t+8) WF∧Box WF (W.heap.size+1+1) #[.int .i64 ((1+2)),.int .i64 (st.1),.int .i64 (ct.1),.int .i64 (tick),.int .i64 ((-dy)),.int .i64 (0),.int .i64 (er),.int .i64 (lo),.int .i64 ((lo+(1+hi)))] 155) (HA.out.res _ _ _ _ _ _ _ _ _ (by omega) rfl) ?_
          clear q0 q1 q2 q3 q4 q5 q6 q7 q8 lq z0 z1 z2 z3 z4 z5 z6 z7 z8 fz0 fz1 fz2 fz3 fz4 fz5 fz6 fz7 fz8 lz
          rintro WF ⟨hRF,hbF⟩
          obtain ⟨z0,z1,z2,z3,z4,z5,z6,z7,z8⟩:=hbF.c9
          exact bodyPost_ret (v:=.agg #[.int .i64 ((1+2)),.int .i64 (st.1),.int .i64 (ct.1),.int .i64 (tick),.int .i64 ((-dy)),.int .i64 (0),.int .i64 (er),.int .i64 (lo),.int .i64 ((lo+(1+hi)))]) (by simp [results,Tryz.results79,go_sem,z0,z1,z2,z3,z4,z5,z6,z7,z8]) rfl (ring_at_out hRF (by omega) ⟨_,_,_,_,_,_,_,_,⟨by omega,by omega⟩,HF.out.1,HF.out.2,⟨⟨by omega,by omega⟩,⟨by omega,by omega⟩,by omega⟩,⟨by omega,by omega⟩,⟨by omega,by omega⟩,⟨by omega,by omega⟩,rfl⟩)
      · have hx3:¬ 1+x=3:=by omega
        obtain ⟨q0,q1,q2,q3,q4,q5,q6,q7,q8⟩:=H8.out.q.c9
        have lq:=H8.out.q.lt
        obtain ⟨z0,z1,z2,z3,z4,z5,z6,z7,z8⟩:=H8.out.z.c9
        obtain ⟨fz0,fz1,fz2,fz3,fz4,fz5,fz6,fz7,fz8⟩:=H8.out.z.f9
        have lz:=H8.out.z.lt
        go_wp2_with fail
        refine forgetW (fun WF=>RingAt W B (t+8) WF∧Box WF (W.heap.size+1+1) #[.int .i64 ((1+x)),.int .i64 (st.1),.int .i64 (ct.1),.int .i64 (tick),.int .i64 (0),.int .i64 (dy),.int .i64 (er),.int .i64 (lo),.int .i64 ((lo+(1+hi)))] 155) (H8.out.res _ _ _ _ _ _ _ _ _ (by omega) rfl) ?_
        clear q0 q1 q2 q3 q4 q5 q6 q7 q8 lq z0 z1 z2 z3 z4 z5 z6 z7 z8 fz0 fz1 fz2 fz3 fz4 fz5 fz6 fz7 fz8 lz
        rintro WF ⟨hRF,hbF⟩
        obtain ⟨z0,z1,z2,z3,z4,z5,z6,z7,z8⟩:=hbF.c9
        exact bodyPost_ret (v:=.agg #[.int .i64 ((1+x)),.int .i64 (st.1),.int .i64 (ct.1),.int .i64 (tick),.int .i64 (0),.int .i64 (dy),.int .i64 (er),.int .i64 (lo),.int .i64 ((lo+(1+hi)))]) (by simp [results,Tryz.results79,go_sem,z0,z1,z2,z3,z4,z5,z6,z7,z8]) rfl (ring_at_out hRF (by omega) ⟨_,_,_,_,_,_,_,_,⟨by omega,by omega⟩,HF.out.1,HF.out.2,⟨⟨by omega,by omega⟩,⟨by omega,by omega⟩,by omega⟩,⟨by omega,by omega⟩,⟨by omega,by omega⟩,⟨by omega,by omega⟩,rfl⟩)
end Go.Proofs.YteafglginnonnaaGreat
