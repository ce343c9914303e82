/- Several texts in one. -/
import Derived.Test.YteafglginnonnaaGreatWatchF
/- Package watch: what an area may read. Conditions: bounds. -/
set_option linter.unusedVariables false
set_option linter.unusedSimpArgs false
namespace Go.Proofs.YteafglginnonnaaGreat
open Go.RowKit Go.Shelf
theorem isq_self {x:Int} (h:0≤x) (h1:x<18446744073709551616):isq x≤x:=by
 obtain ⟨a0,a1,a2⟩:=isq_spec x h h1
 rcases Int.lt_or_le (isq x) 1 with h2 | h2
 · omega
 · have:=Int.mul_le_mul_of_nonneg_left h2 a0
   omega
theorem roots_two {m n:Int} (h0:0≤m) (h:m≤n) (h1:n≤1152921504606846976):rootsS m n=(isq m,upq n,0):=by
 unfold rootsS upq
 rw [if_pos (check_ok (by omega) h h1),if_neg (by omega)]
@[go_sem] theorem index_corner0 (x0 x1 y0 y1:Int) (w:World):(Instr.index 219 (.agg #[.int .i64 (x0),.int .i64 (y0),.int .i64 (x0),.int .i64 (y1),.int .i64 (x1),.int .i64 (y0),.int .i64 (x1),.int .i64 (y1)]) (.int .i64 0)).run Tryz.prog w=.ok (.agg #[.int .i64 (x0),.int .i64 (y0)]) w:=by kernel_rfl
@[go_sem] theorem index_corner1 (x0 x1 y0 y1:Int) (w:World):(Instr.index 219 (.agg #[.int .i64 (x0),.int .i64 (y0),.int .i64 (x0),.int .i64 (y1),.int .i64 (x1),.int .i64 (y0),.int .i64 (x1),.int .i64 (y1)]) (.int .i64 1)).run Tryz.prog w=.ok (.agg #[.int .i64 (x0),.int .i64 (y1)]) w:=by kernel_rfl
@[go_sem] theorem index_corner2 (x0 x1 y0 y1:Int) (w:World):(Instr.index 219 (.agg #[.int .i64 (x0),.int .i64 (y0),.int .i64 (x0),.int .i64 (y1),.int .i64 (x1),.int .i64 (y0),.int .i64 (x1),.int .i64 (y1)]) (.int .i64 2)).run Tryz.prog w=.ok (.agg #[.int .i64 (x1),.int .i64 (y0)]) w:=by kernel_rfl
@[go_sem] theorem index_corner3 (x0 x1 y0 y1:Int) (w:World):(Instr.index 219 (.agg #[.int .i64 (x0),.int .i64 (y0),.int .i64 (x0),.int .i64 (y1),.int .i64 (x1),.int .i64 (y0),.int .i64 (x1),.int .i64 (y1)]) (.int .i64 3)).run Tryz.prog w=.ok (.agg #[.int .i64 (x1),.int .i64 (y1)]) w:=by kernel_rfl
set_option maxRecDepth 100000 in
set_option maxHeartbeats 4000000 in
theorem wrvalues_any {k:KndD} {a:Ar4} (hk:KBd k) (ha:ABd a) (hs:k.sc=false) (w:World):Gives Tryz.prog 294 #[.agg (postA k),.agg #[.int .i64 (a.1),.int .i64 (a.2.1),.int .i64 (a.2.2.1),.int .i64 (a.2.2.2)]] w (.agg #[.int .i64 ((valuesK k a).1),.int .i64 ((valuesK k a).2)]):=by
 have HC:=hide (fun W=>wcorners_any a W)
 have HN:=hide (fun W=>wnearest_any k a W)
 have H0:=hide (fun W=>wsquare_any hk ((corner_in ha (a.1,a.2.2.1) (by simp [cornersA])).bd ha) W)
 have H1:=hide (fun W=>wsquare_any hk ((corner_in ha (a.1,a.2.2.2) (by simp [cornersA])).bd ha) W)
 have H2:=hide (fun W=>wsquare_any hk ((corner_in ha (a.2.1,a.2.2.1) (by simp [cornersA])).bd ha) W)
 have H3:=hide (fun W=>wsquare_any hk ((corner_in ha (a.2.1,a.2.2.2) (by simp [cornersA])).bd ha) W)
 have HQ:=hide (fun W=>wsquare_any hk (near_bd (k:=k) ha) W)
 have hm:mostK k a≤9290873254707200:=most_le (by omega) fun p hp=>(sq_bdK hk ((corner_in ha p hp).bd ha)).2.2.2.2
 have hn:=most_ge (k:=k) (near_in k ha)
 have hq0:=sq_nonneg k (nearK k a)
 have HR:=hide (fun W=>roots_any (sqK k (nearK k a)) (mostK k a) W)
 rw [roots_two hq0 hn (by omega)] at HR
 have i1:=isq_self hq0 (by omega)
 have i2:=(isq_spec _ hq0 (by omega)).1
 have i3:=isq_self (x:=mostK k a) (by omega) (by omega)
 have i4:upq (mostK k a)≤mostK k a+1:=by unfold upq;split <;> omega
 have i5:=(upq_spec (x:=mostK k a) (by omega) (by omega)).1
 have he:=hk.err
 unfold valuesK
 rw [if_neg (by simp [hs])]
 rw [most_eq] at *
 have hI:0≤isq (sqK k (nearK k a))∧isq (sqK k (nearK k a))≤9290873254707201:=by omega
 generalize sqK k (nearK k a)=S at *
 generalize nearK k a=P at *
 generalize sqK k (a.1,a.2.2.1)=q0 at *
 generalize sqK k (a.1,a.2.2.2)=q1 at *
 generalize sqK k (a.2.1,a.2.2.1)=q2 at *
 generalize sqK k (a.2.1,a.2.2.2)=q3 at *
 obtain ⟨M,hM⟩:∃ M,max (max (max (max 0 q0) q1) q2) q3=M:=⟨_,rfl⟩
 rw [hM] at HR hm hn i3 i4 i5 ⊢
 have HM:=hide hM
 clear hM
 have hU:0≤upq M∧upq M≤9290873254707202:=by omega
 clear i1 i2 i3 i4 i5 hm hn hq0
 generalize isq S=I at *
 generalize upq M=U at *
 obtain ⟨P1,P2⟩:=P
 obtain ⟨x0,x1,y0,y1⟩:=a
 dsimp only at *
 unfold postA at *
 generalize k.wx=wx at *
 generalize k.wy=wy at *
 generalize k.far=fr at *
 generalize k.err=er at *
 clear hk ha hs
 (unfold Gives;go_enter Tryz.func294,Tryz.ntmps294)
 go_wp2_with fail
 go_at_call 137
 refine (HC.out _).mono ?_
 intro p0
 go_wp2_with fail
 refine forgetW (fun V=>Up w V∧Box V w.heap.size #[.int .i64 (wx),.int .i64 (wy),.int .i64 (fr),.int .i64 (er)] 175∧Box V (w.heap.size+1) #[.int .i64 (x0),.int .i64 (x1),.int .i64 (y0),.int .i64 (y1)] 61∧Box V (w.heap.size+1+1) #[.int .i64 (0),.int .i64 (0)] 31) ⟨(by repeat (first|with_reducible (first|exact Up.refl _|apply Up.plus)|apply Up.ext|apply Up.alloc|apply Up.drew|refine Up.setCell ?_ (by simp;try omega) _)),(by repeat (first|exact Box.mk rfl|(refine Box.mk ?_;simp;done)|apply Box.ext|apply Box.drew|apply Box.alloc|apply Box.two1|refine Box.other ?_ (by omega) _ _)),(by repeat (first|exact Box.mk rfl|(refine Box.mk ?_;simp;done)|apply Box.ext|apply Box.drew|apply Box.alloc|apply Box.two1|refine Box.other ?_ (by omega) _ _)),(by repeat (first|exact Box.mk rfl|(refine Box.mk ?_;simp;done)|apply Box.ext|apply Box.drew|apply Box.alloc|apply Box.two1|refine Box.other ?_ (by omega) _ _))⟩ ?_
 rintro V0 ⟨hu0,b0,c0,d0⟩
 have HB0:=hide (And.intro hu0 (And.intro b0 (And.intro c0 d0)))
 have t0:=b0.cell 0 rfl
 have t1:=b0.cell 1 rfl
 have t2:=b0.cell 2 rfl
 have t3:=b0.cell 3 rfl
 have lt:=b0.lt
 clear hu0 b0 c0 d0
 refine wp_loop_rounds 5 ?_
 rw [rounds_succ]
 go_wp2_with fail
 go_at_call 295
 refine forgetK (fun V=>Up w V∧Box V w.heap.size #[.int .i64 (wx),.int .i64 (wy),.int .i64 (fr),.int .i64 (er)] 175∧Box V (w.heap.size+1) #[.int .i64 (x0),.int .i64 (x1),.int .i64 (y0),.int .i64 (y1)] 61∧Box V (w.heap.size+1+1) #[.int .i64 (0),.int .i64 (0)] 31) ⟨(by with_reducible repeat (first|exact HB0.out.1|exact Up.refl _|apply Up.ext|apply Up.alloc|apply Up.drew|refine Up.setCell ?_ (by simp only;omega) _)),(by with_reducible repeat (first|exact HB0.out.2.1|apply Box.ext|apply Box.alloc|apply Box.drew|refine Box.other ?_ (by omega) _ _)),(by with_reducible repeat (first|exact HB0.out.2.2.1|apply Box.ext|apply Box.alloc|apply Box.drew|refine Box.other ?_ (by omega) _ _)),(by with_reducible repeat (first|exact HB0.out.2.2.2|apply Box.ext|apply Box.alloc|apply Box.drew|refine Box.other ?_ (by omega) _ _))⟩ ?_
 clear HB0 t0 t1 t2 t3 lt
 rintro V1 ⟨hu0,b0,c0,d0⟩
 have HB1:=hide (And.intro hu0 (And.intro b0 (And.intro c0 d0)))
 refine (H0.out _).mono ?_
 intro p1
 have t0:=b0.cell 0 rfl
 have t1:=b0.cell 1 rfl
 have t2:=b0.cell 2 rfl
 have t3:=b0.cell 3 rfl
 have lt:=b0.lt
 clear hu0 b0 c0 d0
 go_wp2_with fail
 rw [rounds_succ]
 go_wp2_with fail
 go_at_call 295
 refine forgetK (fun V=>Up w V∧Box V w.heap.size #[.int .i64 (wx),.int .i64 (wy),.int .i64 (fr),.int .i64 (er)] 175∧Box V (w.heap.size+1) #[.int .i64 (x0),.int .i64 (x1),.int .i64 (y0),.int .i64 (y1)] 61∧Box V (w.heap.size+1+1) #[.int .i64 (0),.int .i64 (0)] 31) ⟨(by with_reducible repeat (first|exact HB1.out.1|exact Up.refl _|apply Up.ext|apply Up.alloc|apply Up.drew|refine Up.setCell ?_ (by simp only;omega) _)),(by with_reducible repeat (first|exact HB1.out.2.1|apply Box.ext|apply Box.alloc|apply Box.drew|refine Box.other ?_ (by omega) _ _)),(by with_reducible repeat (first|exact HB1.out.2.2.1|apply Box.ext|apply Box.alloc|apply Box.drew|refine Box.other ?_ (by omega) _ _)),(by with_reducible repeat (first|exact HB1.out.2.2.2|apply Box.ext|apply Box.alloc|apply Box.drew|refine Box.other ?_ (by omega) _ _))⟩ ?_
 clear HB1 t0 t1 t2 t3 lt
 rintro V2 ⟨hu0,b0,c0,d0⟩
 have HB2:=hide (And.intro hu0 (And.intro b0 (And.intro c0 d0)))
 refine (H1.out _).mono ?_
 intro p2
 have t0:=b0.cell 0 rfl
 have t1:=b0.cell 1 rfl
 have t2:=b0.cell 2 rfl
 have t3:=b0.cell 3 rfl
 have lt:=b0.lt
 clear hu0 b0 c0 d0
 go_wp2_with fail
 rw [rounds_succ]
 go_wp2_with fail
 go_at_call 295
 refine forgetK (fun V=>Up w V∧Box V w.heap.size #[.int .i64 (wx),.int .i64 (wy),.int .i64 (fr),.int .i64 (er)] 175∧Box V (w.heap.size+1) #[.int .i64 (x0),.int .i64 (x1),.int .i64 (y0),.int .i64 (y1)] 61∧Box V (w.heap.size+1+1) #[.int .i64 (0),.int .i64 (0)] 31) ⟨(by with_reducible repeat (first|exact HB2.out.1|exact Up.refl _|apply Up.ext|apply Up.alloc|apply Up.drew|refine Up.setCell ?_ (by simp only;omega) _)),(by with_reducible repeat (first|exact HB2.out.2.1|apply Box.ext|apply Box.alloc|apply Box.drew|refine Box.other ?_ (by omega) _ _)),(by with_reducible repeat (first|exact HB2.out.2.2.1|apply Box.ext|apply Box.alloc|apply Box.drew|refine Box.other ?_ (by omega) _ _)),(by with_reducible repeat (first|exact HB2.out.2.2.2|apply Box.ext|apply Box.alloc|apply Box.drew|refine Box.other ?_ (by omega) _ _))⟩ ?_
 clear HB2 t0 t1 t2 t3 lt
 rintro V3 ⟨hu0,b0,c0,d0⟩
 have HB3:=hide (And.intro hu0 (And.intro b0 (And.intro c0 d0)))
 refine (H2.out _).mono ?_
 intro p3
 have t0:=b0.cell 0 rfl
 have t1:=b0.cell 1 rfl
 have t2:=b0.cell 2 rfl
 have t3:=b0.cell 3 rfl
 have lt:=b0.lt
 clear hu0 b0 c0 d0
 go_wp2_with fail
 rw [rounds_succ]
 go_wp2_with fail
 go_at_call 295
 refine forgetK (fun V=>Up w V∧Box V w.heap.size #[.int .i64 (wx),.int .i64 (wy),.int .i64 (fr),.int .i64 (er)] 175∧Box V (w.heap.size+1) #[.int .i64 (x0),.int .i64 (x1),.int .i64 (y0),.int .i64 (y1)] 61∧Box V (w.heap.size+1+1) #[.int .i64 (0),.int .i64 (0)] 31) ⟨(by with_reducible repeat (first|exact HB3.out.1|exact Up.refl _|apply Up.ext|apply Up.alloc|apply Up.drew|refine Up.setCell ?_ (by simp only;omega) _)),(by with_reducible repeat (first|exact HB3.out.2.1|apply Box.ext|apply Box.alloc|apply Box.drew|refine Box.other ?_ (by omega) _ _)),(by with_reducible repeat (first|exact HB3.out.2.2.1|apply Box.ext|apply Box.alloc|apply Box.drew|refine Box.other ?_ (by omega) _ _)),(by with_reducible repeat (first|exact HB3.out.2.2.2|apply Box.ext|apply Box.alloc|apply Box.drew|refine Box.other ?_ (by omega) _ _))⟩ ?_
 clear HB3 t0 t1 t2 t3 lt
 rintro V4 ⟨hu0,b0,c0,d0⟩
 have HB4:=hide (And.intro hu0 (And.intro b0 (And.intro c0 d0)))
 refine (H3.out _).mono ?_
 intro p4
 have t0:=b0.cell 0 rfl
 have t1:=b0.cell 1 rfl
 have t2:=b0.cell 2 rfl
 have t3:=b0.cell 3 rfl
 have lt:=b0.lt
 clear hu0 b0 c0 d0
 go_wp2_with fail
 rw [rounds_succ]
 go_wp2_with fail
 refine forgetW (fun V=>Up w V∧Box V w.heap.size #[.int .i64 (wx),.int .i64 (wy),.int .i64 (fr),.int .i64 (er)] 175∧Box V (w.heap.size+1) #[.int .i64 (x0),.int .i64 (x1),.int .i64 (y0),.int .i64 (y1)] 61∧Box V (w.heap.size+1+1) #[.int .i64 (0),.int .i64 (0)] 31) ⟨(by with_reducible repeat (first|exact HB4.out.1|exact Up.refl _|apply Up.ext|apply Up.alloc|apply Up.drew|refine Up.setCell ?_ (by simp only;omega) _)),(by with_reducible repeat (first|exact HB4.out.2.1|apply Box.ext|apply Box.alloc|apply Box.drew|refine Box.other ?_ (by omega) _ _)),(by with_reducible repeat (first|exact HB4.out.2.2.1|apply Box.ext|apply Box.alloc|apply Box.drew|refine Box.other ?_ (by omega) _ _)),(by with_reducible repeat (first|exact HB4.out.2.2.2|apply Box.ext|apply Box.alloc|apply Box.drew|refine Box.other ?_ (by omega) _ _))⟩ ?_
 clear HB4 t0 t1 t2 t3 lt
 rintro V ⟨hu0,b0,c0,d0⟩
 have HB:=hide (And.intro hu0 (And.intro b0 d0))
 have t0:=b0.cell 0 rfl
 have t1:=b0.cell 1 rfl
 have t2:=b0.cell 2 rfl
 have t3:=b0.cell 3 rfl
 have lt:=b0.lt
 have a0:=c0.cell 0 rfl
 have a1:=c0.cell 1 rfl
 have a2:=c0.cell 2 rfl
 have a3:=c0.cell 3 rfl
 have la:=c0.lt
 have hl4:=d0.lt
 clear hu0 b0 c0 d0
 rw [show max 0 (max q0 (max q1 (max q2 q3)))=M by have:=HM.out;omega]
 refine wp_region_floatz (al:=[(13,8,#[.int .i64 (0),.int .i64 (0)],31)]) (mv:=fun _=>false) 12 [14,15] [0,1,2,3,4,5,6,7,8,9,10,11,12] (by kernel_rfl) (by kernel_rfl) rfl (fun _=>rfl) (fun _ _ _ _ h=>h) (makes1 ⟨_,rfl,rfl,fun _=>rfl,fun _ _=>by simp [go_sem]⟩) (cls_ext _) (by first|exact drew_in2 _ _|exact drew_in _) (Nat.le_refl _) ?_
 simp only [withOps,List.filterMap_cons,List.filterMap_nil,List.getElem?_toArray,List.getElem?_cons_zero,List.getElem?_cons_succ,Option.map_some]
 (repeat (first|(apply walkF_pure (base:=fun p:Ext=>ext _ p) rfl rfl rfl (by kernel_rfl);· (intro px K hK;go_big_quiet_op;first|exact hK|(apply Exists.intro;refine ⟨fun _=>?_,?_⟩;(· ((first|(go_at_call 296;with_reducible exact Gives.inFloat (HN.out _))|(go_at_call 295;with_reducible exact Gives.inFloat (HQ.out _))|(go_at_call 247;with_reducible exact Gives.inFloat (HR.out _)))));exact hK)))|(apply walkF_skip rfl;simp only [Act.put,List.setIfInBounds_toArray,List.set_cons_zero,List.set_cons_succ])))
 refine walkF_lazy (.int .i64 0) rfl rfl (fun _=>by simp [go_sem]) ?_
 simp only [Act.put,List.setIfInBounds_toArray,List.set_cons_zero,List.set_cons_succ]
 refine walkF_nil (end1 (fun Q U' hq hU bq=>?_))
 simp only [Act.put,List.setIfInBounds_toArray,List.set_cons_zero,List.set_cons_succ]
 (try simp only [List.filterMap_cons,List.filterMap_nil,List.getElem?_toArray,List.getElem?_cons_zero,List.getElem?_cons_succ])
 have hU1:Up V U':=hU
 have HQQ:=hide (And.intro (HB.out.1.trans hU1) (And.intro (HB.out.2.1.up hU1) (And.intro (HB.out.2.2.up hU1) bq)))
 have q0:=bq.cell 0 rfl
 have q1:=bq.cell 1 rfl
 have lq:=bq.lt
 have fq0:=bq.frozen 0
 have fq1:=bq.frozen 1
 clear t0 t1 t2 t3 lt a0 a1 a2 a3 la hU hU1 bq
 have t0:=HQQ.out.2.1.cell 0 rfl
 have t1:=HQQ.out.2.1.cell 1 rfl
 have t2:=HQQ.out.2.1.cell 2 rfl
 have t3:=HQQ.out.2.1.cell 3 rfl
 have lt:=HQQ.out.2.1.lt
 have z0:=HQQ.out.2.2.1.cell 0 rfl
 have z1:=HQQ.out.2.2.1.cell 1 rfl
 have lz:=HQQ.out.2.2.1.lt
 have fz0:=HQQ.out.2.2.1.frozen 0
 have fz1:=HQQ.out.2.2.1.frozen 1
 have n1:w.heap.size≠Q:=by omega
 have n2:w.heap.size+1+1≠Q:=by omega
 have n3:Q≠w.heap.size:=by omega
 have n4:Q≠w.heap.size+1+1:=by omega
 go_wp2_with fail
 refine forgetW (fun WF=>Up w WF∧Box WF (w.heap.size+1+1) #[.int .i64 (I - er),.int .i64 (U+er)] 31) ⟨(by with_reducible repeat (first|exact HQQ.out.1|exact Up.refl _|apply Up.ext|apply Up.alloc|apply Up.drew|refine Up.setCell ?_ (by simp only;omega) _)),?_⟩ ?_
 · exact (by (repeat (first|with_reducible apply Box.ext|with_reducible apply Box.alloc|with_reducible apply Box.drew));exact ((((HQQ.out.2.2.1.other (b':=Q) n2 0 (.int .i64 I)).other (b':=Q) n2 1 (.int .i64 U)).set 0 (.int .i64 (I - er))).set 1 (.int .i64 (U+er))))
 rintro WF ⟨huF,hbF⟩
 have w0:=hbF.cell 0 rfl
 have w1:=hbF.cell 1 rfl
 (refine bodyPost_give huF rfl ⟨_,(by simp [results,Tryz.results294,go_sem,w0,w1];rfl),?_⟩)
 rfl
set_option maxRecDepth 100000 in
theorem wval1_any {k:KndD} {p:Int×Int} (hk:KBd k) (hp:PBd p) {b:Nat} {w:World} (hb:Box w b (scopeA k) 178):Gives Tryz.prog 305 (#[.agg #[.int .i64 (p.1),.int .i64 (p.2)]]++#[.pointer (some ⟨b,0,none⟩)]) w (.bool (frontK k p)):=by
 have HT:=hide (fun W=>wturns_any hk hp W)
 show Gives Tryz.prog 305 #[.agg #[.int .i64 (p.1),.int .i64 (p.2)],.pointer (some ⟨b,0,none⟩)] w (.bool (frontK k p))
 unfold frontK
 obtain ⟨p1,p2⟩:=p
 dsimp only at *
 generalize crK k (p1,p2)=C at *
 generalize doK k (p1,p2)=D at *
 unfold scopeA at *
 generalize k.wx=wx at *
 generalize k.wy=wy at *
 generalize k.far=fr at *
 generalize k.err=er at *
 generalize k.dx=dx at *
 generalize k.dy=dy at *
 generalize k.lo=lo at *
 generalize k.hi=hi at *
 generalize k.wide=wd at *
 have c0:=hb.cell 0 rfl
 have c1:=hb.cell 1 rfl
 have c2:=hb.cell 2 rfl
 have c3:=hb.cell 3 rfl
 have c4:=hb.cell 4 rfl
 have c5:=hb.cell 5 rfl
 have c6:=hb.cell 6 rfl
 have c7:=hb.cell 7 rfl
 have c8:=hb.cell 8 rfl
 have lc:=hb.lt
 clear hk hp hb
 (unfold Gives;go_enter Tryz.func305,Tryz.ntmps305)
 go_wp2_with (go_at_call 141;refine (HT.out _).mono ?_;intro _)
 go_ret
 exact ⟨rfl,(by repeat (first|with_reducible (first|exact Up.refl _|apply Up.plus)|apply Up.ext|apply Up.alloc|apply Up.drew|refine Up.setCell ?_ (by simp;try omega) _))⟩
theorem hull4 (k:KndD) (a:Ar4) (o:Int×Int):hullK k (cornersA a) o=(min (min (min (min o.1 (slopeK k (a.1,a.2.2.1)).1) (slopeK k (a.1,a.2.2.2)).1) (slopeK k (a.2.1,a.2.2.1)).1) (slopeK k (a.2.1,a.2.2.2)).1,
 max (max (max (max o.2 (slopeK k (a.1,a.2.2.1)).2) (slopeK k (a.1,a.2.2.2)).2) (slopeK k (a.2.1,a.2.2.1)).2) (slopeK k (a.2.1,a.2.2.2)).2):=rfl
set_option maxRecDepth 100000 in
set_option maxHeartbeats 4000000 in
theorem wsvalues_any {k:KndD} {a:Ar4} (hk:KBd k) (ha:ABd a) (hs:k.sc=true) (w:World):Gives Tryz.prog 300 #[.agg (scopeA k),.agg #[.int .i64 (a.1),.int .i64 (a.2.1),.int .i64 (a.2.2.1),.int .i64 (a.2.2.2)]] w (.agg #[.int .i64 ((valuesK k a).1),.int .i64 ((valuesK k a).2)]):=by
 have HA:=hide (fun W (_:Up w W) (hb:Box W w.heap.size (scopeA k) 178)=>wall_c 305 #[.pointer (some ⟨w.heap.size,0,none⟩)] (enters_of Tryz.func305 (by kernel_rfl) rfl) (frontK k) ha (fun p W2 hp hu2=>wval1_any hk ((corner_in ha p hp).bd ha) (hb.up hu2)))
 unfold valuesK
 rw [if_pos hs]
 by_cases hF:(cornersA a).all (frontK k)=true
 rotate_left
 · rw [if_neg hF]
   rw [show (cornersA a).all (frontK k)=false by simpa using hF] at HA
   obtain ⟨x0,x1,y0,y1⟩:=a
   dsimp only at *
   unfold scopeA at *
   generalize k.wx=wx at *
   generalize k.wy=wy at *
   generalize k.far=fr at *
   generalize k.err=er at *
   generalize k.dx=dx at *
   generalize k.dy=dy at *
   generalize k.lo=lo at *
   generalize k.hi=hi at *
   generalize k.wide=wd at *
   clear hk ha hs hF
   (unfold Gives;go_enter Tryz.func300,Tryz.ntmps300)
   go_wp2_with (go_at_call 96;refine (HA.out _ (by repeat (first|with_reducible (first|exact Up.refl _|apply Up.plus)|apply Up.ext|apply Up.alloc|apply Up.drew|refine Up.setCell ?_ (by simp;try omega) _)) (by repeat (first|exact Box.mk rfl|(refine Box.mk ?_;simp;done)|apply Box.ext|apply Box.drew|apply Box.alloc|apply Box.two1|refine Box.other ?_ (by omega) _ _))).mono ?_;intro _)
   (refine forgetW (fun WF=>Up w WF∧Box WF (w.heap.size+1+1) #[.int .i64 ((-1099511627776,1099511627776):Int×Int).1,.int .i64 ((-1099511627776,1099511627776):Int×Int).2] 31) ⟨(by repeat (first|with_reducible (first|exact Up.refl _|apply Up.plus)|apply Up.ext|apply Up.alloc|apply Up.drew|refine Up.setCell ?_ (by simp;try omega) _)),(by repeat (first|exact Box.mk rfl|(refine Box.mk ?_;simp;done)|apply Box.ext|apply Box.drew|apply Box.alloc|apply Box.two1|refine Box.other ?_ (by omega) _ _))⟩ ?_;rintro WF ⟨huF,hbF⟩;have zF0:=hbF.cell 0 rfl;have zF1:=hbF.cell 1 rfl;(refine bodyPost_give huF rfl ⟨_,(by simp [results,Tryz.results300,go_sem,zF0,zF1];rfl),?_⟩);rfl)
 rw [if_pos hF]
 rw [hF] at HA
 rw [List.all_eq_true] at hF
 have hd:∀ p∈cornersA a,0<doK k p:=fun p hp=>by have:=hF p hp;unfold frontK at this;rwa [decide_eq_true_eq] at this
 have c0:(a.1,a.2.2.1)∈cornersA a:=by simp [cornersA]
 have c1:(a.1,a.2.2.2)∈cornersA a:=by simp [cornersA]
 have c2:(a.2.1,a.2.2.1)∈cornersA a:=by simp [cornersA]
 have c3:(a.2.1,a.2.2.2)∈cornersA a:=by simp [cornersA]
 have HC:=hide (fun W=>wcorners_any a W)
 have H0s:=hide (fun W=>wslope_any hk ((corner_in ha _ c0).bd ha) (hd _ c0) W)
 have H1s:=hide (fun W=>wslope_any hk ((corner_in ha _ c1).bd ha) (hd _ c1) W)
 have H2s:=hide (fun W=>wslope_any hk ((corner_in ha _ c2).bd ha) (hd _ c2) W)
 have H3s:=hide (fun W=>wslope_any hk ((corner_in ha _ c3).bd ha) (hd _ c3) W)
 have b0:=mdE_bdd hk ((corner_in ha _ c0).bd ha) (hd _ c0)
 have b1:=mdE_bdd hk ((corner_in ha _ c1).bd ha) (hd _ c1)
 have b2:=mdE_bdd hk ((corner_in ha _ c2).bd ha) (hd _ c2)
 have b3:=mdE_bdd hk ((corner_in ha _ c3).bd ha) (hd _ c3)
 have he:=hk.err
 have hbi:=hk.bias
 rw [hull4]
 dsimp only
 generalize slopeK k (a.1,a.2.2.1)=S0 at *
 generalize slopeK k (a.1,a.2.2.2)=S1 at *
 generalize slopeK k (a.2.1,a.2.2.1)=S2 at *
 generalize slopeK k (a.2.1,a.2.2.2)=S3 at *
 obtain ⟨l0,h0⟩:=S0
 obtain ⟨l1,h1⟩:=S1
 obtain ⟨l2,h2⟩:=S2
 obtain ⟨l3,h3⟩:=S3
 obtain ⟨x0,x1,y0,y1⟩:=a
 dsimp only at *
 unfold scopeA at *
 generalize k.wx=wx at *
 generalize k.wy=wy at *
 generalize k.far=fr at *
 generalize k.err=er at *
 generalize k.dx=dx at *
 generalize k.dy=dy at *
 generalize k.lo=lo at *
 generalize k.hi=hi at *
 generalize k.wide=wd at *
 obtain ⟨L,hL⟩:∃ L,min (min (min (min l0 l0) l1) l2) l3=L:=⟨_,rfl⟩
 obtain ⟨G,hG⟩:∃ G,max (max (max (max h0 h0) h1) h2) h3=G:=⟨_,rfl⟩
 have hLb:-1152921504606846976≤L∧L≤1152921504606846976:=by omega
 have hGb:-1152921504606846976≤G∧G≤1152921504606846976:=by omega
 rw [hL,hG]
 have HLG:=hide (And.intro hL hG)
 clear hk ha hs hF hd c0 c1 c2 c3 b0 b1 b2 b3 hL hG
 (unfold Gives;go_enter Tryz.func300,Tryz.ntmps300)
 go_wp2_with fail
 go_at_call 96
 refine (HA.out _ (by repeat (first|with_reducible (first|exact Up.refl _|apply Up.plus)|apply Up.ext|apply Up.alloc|apply Up.drew|refine Up.setCell ?_ (by simp;try omega) _)) (by repeat (first|exact Box.mk rfl|(refine Box.mk ?_;simp;done)|apply Box.ext|apply Box.drew|apply Box.alloc|apply Box.two1|refine Box.other ?_ (by omega) _ _))).mono ?_
 intro pa
 go_wp2_with fail
 go_at_call 137
 obtain ⟨O,hO⟩:∃ T,w.heap.size+1+1+1+pa.os.size=T:=⟨_,rfl⟩
 try rw [hO]
 have hOl:w.heap.size+1+1<O:=by omega
 refine forgetK (fun V=>Up w V∧Box V w.heap.size #[.int .i64 (wx),.int .i64 (wy),.int .i64 (fr),.int .i64 (er),.int .i64 (dx),.int .i64 (dy),.int .i64 (lo),.int .i64 (hi),.int .i64 (wd)] 178∧Box V (w.heap.size+1+1) #[.int .i64 (0),.int .i64 (0)] 31∧Box V O #[.int .i64 (0),.int .i64 (0)] 31) ⟨(by repeat (first|with_reducible (first|exact Up.refl _|apply Up.plus)|apply Up.ext|apply Up.alloc|apply Up.drew|refine Up.setCell ?_ (by simp;try omega) _)),(by repeat (first|exact Box.mk rfl|(refine Box.mk ?_;simp;done)|apply Box.ext|apply Box.drew|apply Box.alloc|apply Box.two1|refine Box.other ?_ (by omega) _ _)),(by repeat (first|exact Box.mk rfl|(refine Box.mk ?_;simp;done)|apply Box.ext|apply Box.drew|apply Box.alloc|apply Box.two1|refine Box.other ?_ (by omega) _ _)),by rw [← hO];exact (by repeat (first|exact Box.mk rfl|(refine Box.mk ?_;simp;done)|apply Box.ext|apply Box.drew|apply Box.alloc|apply Box.two1|refine Box.other ?_ (by omega) _ _))⟩ ?_
 rintro V0 ⟨hu0,b0,d0,e0⟩
 clear hO
 have HB0:=hide (And.intro hu0 (And.intro b0 (And.intro d0 e0)))
 refine (HC.out _).mono ?_
 intro pc
 go_wp2_with fail
 refine forgetW (fun V=>Up V0 V) (by repeat (first|with_reducible (first|exact Up.refl _|apply Up.plus)|apply Up.ext|apply Up.alloc|apply Up.drew|refine Up.setCell ?_ (by simp;try omega) _)) ?_
 intro Y0 hy0
 have HY0:=hide hy0
 clear hu0 b0 d0 e0 hy0
 refine wp_loop_rounds 5 ?_
 rw [rounds_succ]
 have b0:=HB0.out.2.1.up HY0.out
 have t0:=b0.cell 0 rfl
 have t1:=b0.cell 1 rfl
 have t2:=b0.cell 2 rfl
 have t3:=b0.cell 3 rfl
 have t4:=b0.cell 4 rfl
 have t5:=b0.cell 5 rfl
 have t6:=b0.cell 6 rfl
 have t7:=b0.cell 7 rfl
 have t8:=b0.cell 8 rfl
 have lt:=b0.lt
 clear b0
 go_wp2_with fail
 go_at_call 304
 refine forgetK (fun V=>Up Y0 V) (by with_reducible repeat (first|exact (Up.refl Y0)|exact Up.refl _|apply Up.ext|apply Up.alloc|apply Up.drew|refine Up.setCell ?_ (by simp only;omega) _)) ?_
 intro V1 hv
 have HB1:=hide (And.intro (HB0.out.1.trans (HY0.out.trans hv)) (And.intro (HB0.out.2.1.up (HY0.out.trans hv)) (And.intro (HB0.out.2.2.1.up (HY0.out.trans hv)) (HB0.out.2.2.2.up (HY0.out.trans hv)))))
 clear hv HB0 HY0 t0 t1 t2 t3 t4 t5 t6 t7 t8 lt
 refine (H0s.out _).mono ?_
 intro p1
 have hOw:=HB1.out.2.2.2.lt
 have t0:=HB1.out.2.1.cell 0 rfl
 have t1:=HB1.out.2.1.cell 1 rfl
 have t2:=HB1.out.2.1.cell 2 rfl
 have t3:=HB1.out.2.1.cell 3 rfl
 have t4:=HB1.out.2.1.cell 4 rfl
 have t5:=HB1.out.2.1.cell 5 rfl
 have t6:=HB1.out.2.1.cell 6 rfl
 have t7:=HB1.out.2.1.cell 7 rfl
 have t8:=HB1.out.2.1.cell 8 rfl
 have lt:=HB1.out.2.1.lt
 have v0:=HB1.out.2.2.2.cell 0 rfl
 have v1:=HB1.out.2.2.2.cell 1 rfl
 have lv:=HB1.out.2.2.2.lt
 have fv0:=HB1.out.2.2.2.frozen 0
 have fv1:=HB1.out.2.2.2.frozen 1
 go_wp2_with fail
 rw [rounds_succ]
 go_wp2_with fail
 go_at_call 304
 refine forgetK (fun V=>Up w V∧Box V w.heap.size #[.int .i64 (wx),.int .i64 (wy),.int .i64 (fr),.int .i64 (er),.int .i64 (dx),.int .i64 (dy),.int .i64 (lo),.int .i64 (hi),.int .i64 (wd)] 178∧Box V (w.heap.size+1+1) #[.int .i64 (0),.int .i64 (0)] 31∧Box V O #[.int .i64 (l0),.int .i64 (h0)] 31) ⟨(by with_reducible repeat (first|exact HB1.out.1|exact Up.refl _|apply Up.ext|apply Up.alloc|apply Up.drew|refine Up.setCell ?_ (by simp only;omega) _)),(by with_reducible repeat (first|exact HB1.out.2.1|apply Box.ext|apply Box.alloc|apply Box.drew|refine Box.other ?_ (by omega) _ _)),(by with_reducible repeat (first|exact HB1.out.2.2.1|apply Box.ext|apply Box.alloc|apply Box.drew|refine Box.other ?_ (by omega) _ _)),?_⟩ ?_
 · exact (by (repeat (first|with_reducible apply Box.ext|with_reducible apply Box.alloc|with_reducible apply Box.drew|(with_reducible refine Box.other ?_ (by omega) _ _)));exact (((HB1.out.2.2.2.set 0 (.int .i64 l0)).set 1 (.int .i64 h0)).set 0 (.int .i64 l0)).set 1 (.int .i64 h0))
 clear HB1 t0 t1 t2 t3 t4 t5 t6 t7 t8 lt v0 v1 lv fv0 fv1
 rintro V2 ⟨hu0,b0,d0,e0⟩
 have HB2:=hide (And.intro hu0 (And.intro b0 (And.intro d0 e0)))
 clear hOw hu0 b0 d0 e0
 refine (H1s.out _).mono ?_
 intro p2
 have hOw:=HB2.out.2.2.2.lt
 have t0:=HB2.out.2.1.cell 0 rfl
 have t1:=HB2.out.2.1.cell 1 rfl
 have t2:=HB2.out.2.1.cell 2 rfl
 have t3:=HB2.out.2.1.cell 3 rfl
 have t4:=HB2.out.2.1.cell 4 rfl
 have t5:=HB2.out.2.1.cell 5 rfl
 have t6:=HB2.out.2.1.cell 6 rfl
 have t7:=HB2.out.2.1.cell 7 rfl
 have t8:=HB2.out.2.1.cell 8 rfl
 have lt:=HB2.out.2.1.lt
 have v0:=HB2.out.2.2.2.cell 0 rfl
 have v1:=HB2.out.2.2.2.cell 1 rfl
 have lv:=HB2.out.2.2.2.lt
 have fv0:=HB2.out.2.2.2.frozen 0
 have fv1:=HB2.out.2.2.2.frozen 1
 go_wp2_with fail
 rw [rounds_succ]
 go_wp2_with fail
 go_at_call 304
 obtain ⟨L1,hL1⟩:∃ x,min l0 l1=x:=⟨_,rfl⟩
 obtain ⟨H1,hH1⟩:∃ x,max h0 h1=x:=⟨_,rfl⟩
 try rw [hL1,hH1]
 have HLH1:=hide (And.intro hL1 hH1)
 clear hL1 hH1
 refine forgetK (fun V=>Up w V∧Box V w.heap.size #[.int .i64 (wx),.int .i64 (wy),.int .i64 (fr),.int .i64 (er),.int .i64 (dx),.int .i64 (dy),.int .i64 (lo),.int .i64 (hi),.int .i64 (wd)] 178∧Box V (w.heap.size+1+1) #[.int .i64 (0),.int .i64 (0)] 31∧Box V O #[.int .i64 (L1),.int .i64 (H1)] 31) ⟨(by with_reducible repeat (first|exact HB2.out.1|exact Up.refl _|apply Up.ext|apply Up.alloc|apply Up.drew|refine Up.setCell ?_ (by simp only;omega) _)),(by with_reducible repeat (first|exact HB2.out.2.1|apply Box.ext|apply Box.alloc|apply Box.drew|refine Box.other ?_ (by omega) _ _)),(by with_reducible repeat (first|exact HB2.out.2.2.1|apply Box.ext|apply Box.alloc|apply Box.drew|refine Box.other ?_ (by omega) _ _)),?_⟩ ?_
 · exact (by (repeat (first|with_reducible apply Box.ext|with_reducible apply Box.alloc|with_reducible apply Box.drew|(with_reducible refine Box.other ?_ (by omega) _ _)));exact (HB2.out.2.2.2.set 0 (.int .i64 L1)).set 1 (.int .i64 H1))
 clear HB2 t0 t1 t2 t3 t4 t5 t6 t7 t8 lt v0 v1 lv fv0 fv1
 rintro V3 ⟨hu0,b0,d0,e0⟩
 have HB3:=hide (And.intro hu0 (And.intro b0 (And.intro d0 e0)))
 clear hOw hu0 b0 d0 e0
 refine (H2s.out _).mono ?_
 intro p3
 have hOw:=HB3.out.2.2.2.lt
 have t0:=HB3.out.2.1.cell 0 rfl
 have t1:=HB3.out.2.1.cell 1 rfl
 have t2:=HB3.out.2.1.cell 2 rfl
 have t3:=HB3.out.2.1.cell 3 rfl
 have t4:=HB3.out.2.1.cell 4 rfl
 have t5:=HB3.out.2.1.cell 5 rfl
 have t6:=HB3.out.2.1.cell 6 rfl
 have t7:=HB3.out.2.1.cell 7 rfl
 have t8:=HB3.out.2.1.cell 8 rfl
 have lt:=HB3.out.2.1.lt
 have v0:=HB3.out.2.2.2.cell 0 rfl
 have v1:=HB3.out.2.2.2.cell 1 rfl
 have lv:=HB3.out.2.2.2.lt
 have fv0:=HB3.out.2.2.2.frozen 0
 have fv1:=HB3.out.2.2.2.frozen 1
 go_wp2_with fail
 rw [rounds_succ]
 go_wp2_with fail
 go_at_call 304
 obtain ⟨L2,hL2⟩:∃ x,min L1 l2=x:=⟨_,rfl⟩
 obtain ⟨H2,hH2⟩:∃ x,max H1 h2=x:=⟨_,rfl⟩
 try rw [hL2,hH2]
 have HLH2:=hide (And.intro hL2 hH2)
 clear hL2 hH2
 refine forgetK (fun V=>Up w V∧Box V w.heap.size #[.int .i64 (wx),.int .i64 (wy),.int .i64 (fr),.int .i64 (er),.int .i64 (dx),.int .i64 (dy),.int .i64 (lo),.int .i64 (hi),.int .i64 (wd)] 178∧Box V (w.heap.size+1+1) #[.int .i64 (0),.int .i64 (0)] 31∧Box V O #[.int .i64 (L2),.int .i64 (H2)] 31) ⟨(by with_reducible repeat (first|exact HB3.out.1|exact Up.refl _|apply Up.ext|apply Up.alloc|apply Up.drew|refine Up.setCell ?_ (by simp only;omega) _)),(by with_reducible repeat (first|exact HB3.out.2.1|apply Box.ext|apply Box.alloc|apply Box.drew|refine Box.other ?_ (by omega) _ _)),(by with_reducible repeat (first|exact HB3.out.2.2.1|apply Box.ext|apply Box.alloc|apply Box.drew|refine Box.other ?_ (by omega) _ _)),?_⟩ ?_
 · exact (by (repeat (first|with_reducible apply Box.ext|with_reducible apply Box.alloc|with_reducible apply Box.drew|(with_reducible refine Box.other ?_ (by omega) _ _)));exact (HB3.out.2.2.2.set 0 (.int .i64 L2)).set 1 (.int .i64 H2))
 clear HB3 t0 t1 t2 t3 t4 t5 t6 t7 t8 lt v0 v1 lv fv0 fv1
 rintro V4 ⟨hu0,b0,d0,e0⟩
 have HB4:=hide (And.intro hu0 (And.intro b0 (And.intro d0 e0)))
 clear hOw hu0 b0 d0 e0
 refine (H3s.out _).mono ?_
 intro p4
 have hOw:=HB4.out.2.2.2.lt
 have t0:=HB4.out.2.1.cell 0 rfl
 have t1:=HB4.out.2.1.cell 1 rfl
 have t2:=HB4.out.2.1.cell 2 rfl
 have t3:=HB4.out.2.1.cell 3 rfl
 have t4:=HB4.out.2.1.cell 4 rfl
 have t5:=HB4.out.2.1.cell 5 rfl
 have t6:=HB4.out.2.1.cell 6 rfl
 have t7:=HB4.out.2.1.cell 7 rfl
 have t8:=HB4.out.2.1.cell 8 rfl
 have lt:=HB4.out.2.1.lt
 have v0:=HB4.out.2.2.2.cell 0 rfl
 have v1:=HB4.out.2.2.2.cell 1 rfl
 have lv:=HB4.out.2.2.2.lt
 have fv0:=HB4.out.2.2.2.frozen 0
 have fv1:=HB4.out.2.2.2.frozen 1
 go_wp2_with fail
 obtain ⟨L3,hL3⟩:∃ x,min L2 l3=x:=⟨_,rfl⟩
 obtain ⟨H3,hH3⟩:∃ x,max H2 h3=x:=⟨_,rfl⟩
 try rw [hL3,hH3]
 have HLH3:=hide (And.intro hL3 hH3)
 clear hL3 hH3
 refine forgetW (fun V=>Up w V∧Box V w.heap.size #[.int .i64 (wx),.int .i64 (wy),.int .i64 (fr),.int .i64 (er),.int .i64 (dx),.int .i64 (dy),.int .i64 (lo),.int .i64 (hi),.int .i64 (wd)] 178∧Box V (w.heap.size+1+1) #[.int .i64 (0),.int .i64 (0)] 31∧Box V O #[.int .i64 (L3),.int .i64 (H3)] 31) ⟨(by with_reducible repeat (first|exact HB4.out.1|exact Up.refl _|apply Up.ext|apply Up.alloc|apply Up.drew|refine Up.setCell ?_ (by simp only;omega) _)),(by with_reducible repeat (first|exact HB4.out.2.1|apply Box.ext|apply Box.alloc|apply Box.drew|refine Box.other ?_ (by omega) _ _)),(by with_reducible repeat (first|exact HB4.out.2.2.1|apply Box.ext|apply Box.alloc|apply Box.drew|refine Box.other ?_ (by omega) _ _)),?_⟩ ?_
 · exact (by (repeat (first|with_reducible apply Box.ext|with_reducible apply Box.alloc|with_reducible apply Box.drew|(with_reducible refine Box.other ?_ (by omega) _ _)));exact (HB4.out.2.2.2.set 0 (.int .i64 L3)).set 1 (.int .i64 H3))
 clear HB4 t0 t1 t2 t3 t4 t5 t6 t7 t8 lt v0 v1 lv fv0 fv1
 rintro V5 ⟨hu0,b0,d0,e0⟩
 have HB5:=hide (And.intro hu0 (And.intro b0 (And.intro d0 e0)))
 have eL:L3=L:=by have h1:=HLH1.out.1;have h2:=HLH2.out.1;have h3:=HLH3.out.1;have h:=HLG.out.1;omega
 have eH:H3=G:=by have h1:=HLH1.out.2;have h2:=HLH2.out.2;have h3:=HLH3.out.2;have h:=HLG.out.2;omega
 subst eL eH
 have t0:=b0.cell 0 rfl
 have t1:=b0.cell 1 rfl
 have t2:=b0.cell 2 rfl
 have t3:=b0.cell 3 rfl
 have t4:=b0.cell 4 rfl
 have t5:=b0.cell 5 rfl
 have t6:=b0.cell 6 rfl
 have t7:=b0.cell 7 rfl
 have t8:=b0.cell 8 rfl
 have lt:=b0.lt
 have v0:=e0.cell 0 rfl
 have v1:=e0.cell 1 rfl
 have lv:=e0.lt
 have z0:=d0.cell 0 rfl
 have z1:=d0.cell 1 rfl
 have lz:=d0.lt
 have fz0:=d0.frozen 0
 have fz1:=d0.frozen 1
 clear hu0 b0 d0 e0
 rw [rounds_succ]
 go_wp2_with fail
 refine forgetW (fun WF=>Up w WF∧Box WF (w.heap.size+1+1) #[.int .i64 (L3 - hi - er),.int .i64 (H3 - lo+er)] 31) ⟨(by with_reducible repeat (first|exact HB5.out.1|exact Up.refl _|apply Up.ext|apply Up.alloc|apply Up.drew|refine Up.setCell ?_ (by simp only;omega) _)),?_⟩ ?_
 · exact (by (repeat (first|with_reducible apply Box.ext|with_reducible apply Box.alloc|with_reducible apply Box.drew));exact (HB5.out.2.2.1.set 0 (.int .i64 (L3 - hi - er))).set 1 (.int .i64 (H3 - lo+er)))
 rintro WF ⟨huF,hbF⟩
 have w0:=hbF.cell 0 rfl
 have w1:=hbF.cell 1 rfl
 (refine bodyPost_give huF rfl ⟨_,(by simp [results,Tryz.results300,go_sem,w0,w1];rfl),?_⟩)
 rfl
end Go.Proofs.YteafglginnonnaaGreat
/- Package watch: an offer by its kind. Conditions: the offer is valid; what lies in memory. -/
namespace Go.Proofs.YteafglginnonnaaGreat
open Go.RowKit Go.Shelf
def kndV (k:KndD):Value:=if k.sc=true then .iface 178 (.agg (scopeA k)) else .iface 175 (.agg (postA k))
theorem wof1_any (p:Int×Int×Int) (o:OffD) {b:Nat} {w:World} (hb:Box w b (offA o) 50):Gives Tryz.prog 95 (#[.agg #[.int .i64 p.1,.int .i64 p.2.1,.int .i64 p.2.2]]++#[.pointer (some ⟨b,0,none⟩)]) w (.bool (p.1==o.catalog)):=by
 have c0:=hb.cell 2 rfl
 have lb:=hb.lt
 show Gives Tryz.prog 95 #[.agg #[.int .i64 p.1,.int .i64 p.2.1,.int .i64 p.2.2],.pointer (some ⟨b,0,none⟩)] w (.bool (p.1==o.catalog))
 clear hb
 (unfold Gives;go_enter Tryz.func95,Tryz.ntmps95)
 go_wp2
 go_ret
 exact ⟨rfl,(by repeat (first|with_reducible (first|exact Up.refl _|apply Up.plus)|apply Up.ext|apply Up.alloc|apply Up.drew|refine Up.setCell ?_ (by simp;try omega) _))⟩
set_option maxRecDepth 100000 in
set_option maxHeartbeats 4000000 in
theorem wof_any {K:Nat→Prop} {w:World} {a sa ca:Option Addr} {n c sn sc cn cc:Nat} {s:SkyD} (hb:Bods K w (.slice a n c) s.bodies) (hh:I64 s.home) (hs:Tris K w (.slice sa sn sc) s.stations) (hc:Tris K w (.slice ca cn cc) s.catalogs) {o:OffD} (he:offE s o=0) :
 Gives Tryz.prog 50 #[.agg #[.slice a n c,.int .i64 s.home,.slice sa sn sc,.slice ca cn cc],.agg (offA o)] w (kndV (kndOf s o)):=by
 have HWH:=hide (fun W (hu:Up w W)=>skwhere_any (hb.keeps (hu.keeps K)) hh (hs.keeps (hu.keeps K)) (hc.keeps (hu.keeps K)) o.station o.tick)
 obtain ⟨hsk,hk,_,_,_,_,_,hrest⟩:=offE_zero he
 unfold kndV kndOf
 by_cases h2:o.kind=2
 · rw [if_pos h2,if_neg (by simp)]
   generalize whereV s o.station o.tick=P at *
   obtain ⟨P1,P2,P3⟩:=P
   obtain ⟨kd,st,ct,tk,dx,dy,er,fr,wd,co,su⟩:=o
   dsimp only at h2 HWH ⊢
   subst h2
   generalize s.home=home at *
   clear hb hs hc he hk hsk hrest
   (unfold Gives;go_enter Tryz.func50,Tryz.ntmps50)
   go_wp2_with fail
   go_at_call 93
   refine forgetK (fun V=>Up w V∧Box V (w.heap.size+1) #[.int .i64 2,.int .i64 st,.int .i64 ct,.int .i64 tk,.int .i64 dx,.int .i64 dy,.int .i64 er,.int .i64 fr,.int .i64 wd,.int .i64 co,.bool su] 50) ⟨(by repeat (first|with_reducible (first|exact Up.refl _|apply Up.plus)|apply Up.ext|apply Up.alloc|apply Up.drew|refine Up.setCell ?_ (by simp;try omega) _)),(by repeat (first|exact Box.mk rfl|(refine Box.mk ?_;simp;done)|apply Box.ext|apply Box.drew|apply Box.alloc|apply Box.two1|refine Box.other ?_ (by omega) _ _))⟩ ?_
   rintro V ⟨hu,hx⟩
   refine (HWH.out V hu).mono ?_
   intro p1
   have y0:=hx.cell 0 rfl
   have y1:=hx.cell 1 rfl
   have y2:=hx.cell 2 rfl
   have y3:=hx.cell 3 rfl
   have y4:=hx.cell 4 rfl
   have y5:=hx.cell 5 rfl
   have y6:=hx.cell 6 rfl
   have y7:=hx.cell 7 rfl
   have y8:=hx.cell 8 rfl
   have y9:=hx.cell 9 rfl
   have y10:=hx.cell 10 rfl
   have ly:=hx.lt
   have HB:=hide hu
   clear hu hx
   go_wp2
   go_ret
   exact ⟨rfl,(by repeat (first|with_reducible exact HB.out|with_reducible exact Up.refl _|apply Up.ext|apply Up.alloc|apply Up.drew|(refine Up.setCell ?_ (by simp [World.setCell];try omega) _)))⟩
 · obtain ⟨hcat,_⟩:=hrest h2
   obtain ⟨x,hx,_,hbias,_⟩:=bias_ok hsk hcat
   obtain ⟨j,hj,hxj⟩:=firstI_some hx
   have HI:=hide (fun W (hu:Up w W) (hq:Box W (w.heap.size+1) (offA o) 50)=>ixcat_any 95 #[.pointer (some ⟨w.heap.size+1,0,none⟩)] (enters_of Tryz.func95 (by kernel_rfl) rfl) (fun x=>x.1==o.catalog) (hc.keeps (hu.keeps K)) (fun p W2 _ hu2=>wof1_any p o (hq.up hu2)))
   rw [hj] at HI
   have hcn:=(Tris.at hc).1
   have hjn:j<cn:=by have:=(List.getElem?_eq_some_iff.1 hxj).1;omega
   obtain ⟨b0,o0,p,ea,_,hb0,hp,hpi,d0,d1,d2⟩:=(Tris.at hc).2.2 j hjn
   rw [hxj] at hp
   cases hp
   subst ea
   have hkd:o.kind=1:=by omega
   rw [if_neg h2,if_pos rfl,hbias]
   generalize whereV s o.station o.tick=P at *
   obtain ⟨P1,P2,P3⟩:=P
   obtain ⟨x0,x1,x2⟩:=x
   obtain ⟨kd,st,ct,tk,dx,dy,er,fr,wd,co,su⟩:=o
   dsimp only at h2 hkd HWH HI d0 d1 d2 ⊢
   subst hkd
   generalize s.home=home at *
   have HP:=hide (And.intro hb0 (And.intro d1 d2))
   have hjb:decide ((j:Int)<0)=false:=by simp
   clear hb hs hc he hk hsk hrest hcat hx hbias hj hxj hcn hpi d0 d1 d2 h2
   (unfold Gives;go_enter Tryz.func50,Tryz.ntmps50)
   go_wp2_with fail
   go_at_call 93
   refine forgetK (fun V=>Up w V∧Box V w.heap.size #[.slice a n c,.int .i64 home,.slice sa sn sc,.slice (some ⟨b0,o0,none⟩) cn cc] 29∧Box V (w.heap.size+1) #[.int .i64 1,.int .i64 st,.int .i64 ct,.int .i64 tk,.int .i64 dx,.int .i64 dy,.int .i64 er,.int .i64 fr,.int .i64 wd,.int .i64 co,.bool su] 50) ⟨(by repeat (first|with_reducible (first|exact Up.refl _|apply Up.plus)|apply Up.ext|apply Up.alloc|apply Up.drew|refine Up.setCell ?_ (by simp;try omega) _)),(by repeat (first|exact Box.mk rfl|(refine Box.mk ?_;simp;done)|apply Box.ext|apply Box.drew|apply Box.alloc|apply Box.two1|refine Box.other ?_ (by omega) _ _)),(by repeat (first|exact Box.mk rfl|(refine Box.mk ?_;simp;done)|apply Box.ext|apply Box.drew|apply Box.alloc|apply Box.two1|refine Box.other ?_ (by omega) _ _))⟩ ?_
   rintro V ⟨hu,hy,hx⟩
   refine (HWH.out V hu).mono ?_
   intro p1
   have y0:=hx.cell 0 rfl
   have y1:=hx.cell 1 rfl
   have y2:=hx.cell 2 rfl
   have y3:=hx.cell 3 rfl
   have y4:=hx.cell 4 rfl
   have y5:=hx.cell 5 rfl
   have y6:=hx.cell 6 rfl
   have y7:=hx.cell 7 rfl
   have y8:=hx.cell 8 rfl
   have y9:=hx.cell 9 rfl
   have y10:=hx.cell 10 rfl
   have ly:=hx.lt
   have HB:=hide (And.intro hu (And.intro hy hx))
   have s2:=hy.cell 3 rfl
   have ls:=hy.lt
   clear hu hx hy
   go_wp2_with fail
   go_at_call 94
   obtain ⟨Q7,hQ7⟩:∃ T,V.heap.size+p1.os.size+1=T:=⟨_,rfl⟩
   try rw [hQ7]
   refine forgetK (fun Y=>Up w Y∧Box Y w.heap.size #[.slice a n c,.int .i64 home,.slice sa sn sc,.slice (some ⟨b0,o0,none⟩) cn cc] 29∧Box Y (w.heap.size+1) #[.int .i64 1,.int .i64 st,.int .i64 ct,.int .i64 tk,.int .i64 dx,.int .i64 dy,.int .i64 er,.int .i64 fr,.int .i64 wd,.int .i64 co,.bool su] 50∧Box Y Q7 #[.int .i64 (P1),.int .i64 (P2),.int .i64 (fr),.int .i64 (er)] 173) ⟨(by repeat (first|with_reducible exact HB.out.1|with_reducible apply Up.ext|with_reducible apply Up.alloc|with_reducible apply Up.drew|(with_reducible refine Up.setCell ?_ (by simp only;omega) _))),(by with_reducible repeat (first|exact HB.out.2.1|apply Box.ext|apply Box.alloc|apply Box.drew|refine Box.other ?_ (by omega) _ _)),(by with_reducible repeat (first|exact HB.out.2.2|apply Box.ext|apply Box.alloc|apply Box.drew|refine Box.other ?_ (by omega) _ _)),by rw [← hQ7];exact (by repeat (first|exact Box.mk rfl|(refine Box.mk ?_;simp;done)|apply Box.ext|apply Box.drew|apply Box.alloc|apply Box.two1|refine Box.other ?_ (by omega) _ _))⟩ ?_
   rintro Y ⟨hu,hy,hx,hq⟩
   clear hQ7 HB s2 ls y0 y1 y2 y3 y4 y5 y6 y7 y8 y9 y10 ly
   refine (HI.out Y hu hx).mono ?_
   intro p2
   have y0:=hx.cell 0 rfl
   have y1:=hx.cell 1 rfl
   have y2:=hx.cell 2 rfl
   have y3:=hx.cell 3 rfl
   have y4:=hx.cell 4 rfl
   have y5:=hx.cell 5 rfl
   have y6:=hx.cell 6 rfl
   have y7:=hx.cell 7 rfl
   have y8:=hx.cell 8 rfl
   have y9:=hx.cell 9 rfl
   have y10:=hx.cell 10 rfl
   have ly:=hx.lt
   have s2:=hy.cell 3 rfl
   have ls:=hy.lt
   have q0:=hq.cell 0 rfl
   have q1:=hq.cell 1 rfl
   have q2:=hq.cell 2 rfl
   have q3:=hq.cell 3 rfl
   have lq:=hq.lt
   have e1:Y.cell? ⟨b0,o0+j*3+1,none⟩=some (.int .i64 x1):=(World.cell?_of_block (a:=⟨b0,o0+j*3+1,none⟩) (hu.below.block b0 HP.out.1)).trans HP.out.2.1
   have e2:Y.cell? ⟨b0,o0+j*3+2,none⟩=some (.int .i64 x2):=(World.cell?_of_block (a:=⟨b0,o0+j*3+2,none⟩) (hu.below.block b0 HP.out.1)).trans HP.out.2.2
   have lb0:b0<Y.heap.size:=Nat.lt_of_lt_of_le HP.out.1 hu.below.size
   have HB2:=hide hu
   clear hu hx hy hq
   go_wp2_with fail
   ((first | with_reducible refine wp_region_ext2 (by kernel_rfl) (by kernel_rfl) ?_ | refine wp_region_ext (by kernel_rfl) (by kernel_rfl) ?_);(repeat (go_big_quiet_step (fail)));refine wpQuiet_nil ?_;intro _ hw';obtain ⟨_,hw''⟩:=hw';subst hw'')
   go_wp2
   go_ret
   exact ⟨rfl,(by repeat (first|with_reducible exact HB2.out|with_reducible exact Up.refl _|apply Up.ext|apply Up.alloc|apply Up.drew|(refine Up.setCell ?_ (by simp [World.setCell];try omega) _)))⟩
end Go.Proofs.YteafglginnonnaaGreat
/- Package watch: the view of an area. Conditions: bounds. -/
namespace Go.Proofs.YteafglginnonnaaGreat
open Go.RowKit Go.Shelf
abbrev viewA (v:Bool×Bool×Int×Int):Array Value:=#[.bool v.1,.bool v.2.1,.int .i64 v.2.2.1,.int .i64 v.2.2.2]
theorem meth_r (k:KndD) (n:Nat) (w:World):(method (n+1) 175 (.agg (postA k)) mMay).run Tryz.prog w=.ok (292,.agg (postA k)) w∧(method (n+1) 175 (.agg (postA k)) mField).run Tryz.prog w=.ok (291,.agg (postA k)) w ∧
 (method (n+1) 175 (.agg (postA k)) mValues).run Tryz.prog w=.ok (294,.agg (postA k)) w∧(method (n+1) 175 (.agg (postA k)) mReads).run Tryz.prog w=.ok (293,.agg (postA k)) w:=⟨by kernel_rfl,by kernel_rfl,by kernel_rfl,by kernel_rfl⟩
set_option maxRecDepth 100000 in
set_option maxHeartbeats 4000000 in
theorem wview_r {k:KndD} {a:Ar4} (hk:KBd k) (ha:ABd a) (hs:k.sc=false) (w:World):Gives Tryz.prog 52 #[.iface 175 (.agg (postA k)),.agg #[.int .i64 (a.1),.int .i64 (a.2.1),.int .i64 (a.2.2.1),.int .i64 (a.2.2.2)]] w (.agg (viewA (viewK k a))):=by
 have HM:=hide (fun W=>wrmay_any hk ha hs W)
 have HV:=hide (fun W=>wrvalues_any hk ha hs W)
 have hm1:=fun (n:Nat) (w:World)=>(meth_r k n w).1
 have hm2:=fun (n:Nat) (w:World)=>(meth_r k n w).2.1
 have hm3:=fun (n:Nat) (w:World)=>(meth_r k n w).2.2.1
 have HF:=hide (fun W=>wall_m (w:=W) 291 hm2 (enters_of Tryz.func291 (by kernel_rfl) rfl) (fieldK k) ha (fun p W2 hp hu2=>wrfield_any hk ((corner_in ha p hp).bd ha) hs W2))
 simp only [mMay,mField,mValues,theName] at hm1 hm2 hm3 HF
 unfold viewK clampS
 generalize mayK k a=MY at *
 generalize (cornersA a).all (fieldK k)=SU at *
 generalize valuesK k a=V at *
 obtain ⟨V1,V2⟩:=V
 obtain ⟨x0,x1,y0,y1⟩:=a
 dsimp only at *
 unfold postA at *
 generalize k.wx=wx at *
 generalize k.wy=wy at *
 generalize k.far=fr at *
 generalize k.err=er at *
 clear hk ha hs hm2
 cases MY
 all_goals
  (unfold Gives;go_enter Tryz.func52,Tryz.ntmps52)
  go_wp2_with fail
  refine forgetW (fun V=>Up w V∧Box V w.heap.size #[.int .i64 (x0),.int .i64 (x1),.int .i64 (y0),.int .i64 (y1)] 61∧Box V (w.heap.size+1) #[.bool false,.bool false,.int .i64 0,.int .i64 0] 64) ⟨(by repeat (first|with_reducible (first|exact Up.refl _|apply Up.plus)|apply Up.ext|apply Up.alloc|apply Up.drew|refine Up.setCell ?_ (by simp;try omega) _)),(by repeat (first|exact Box.mk rfl|(refine Box.mk ?_;simp;done)|apply Box.ext|apply Box.drew|apply Box.alloc|apply Box.two1|refine Box.other ?_ (by omega) _ _)),(by repeat (first|exact Box.mk rfl|(refine Box.mk ?_;simp;done)|apply Box.ext|apply Box.drew|apply Box.alloc|apply Box.two1|refine Box.other ?_ (by omega) _ _))⟩ ?_
  rintro V0 ⟨hu,hx,hy⟩
  have HB0:=hide (And.intro hu (And.intro hx hy))
  have a0:=hx.cell 0 rfl
  have a1:=hx.cell 1 rfl
  have a2:=hx.cell 2 rfl
  have a3:=hx.cell 3 rfl
  have la:=hx.lt
  have hyl:=hy.lt
  clear hu hx hy
  refine wp_region_float (al:=[(9,5,#[.bool false,.bool false,.int .i64 0,.int .i64 0],64)]) (mv:=fun _=>false) [10] [0,1,2,3,4,5,6,7,8] (by kernel_rfl) (by kernel_rfl) (makes1 ⟨_,rfl,rfl,fun _=>rfl,fun _ _=>by simp [go_sem]⟩) (cls_ext _) (by first|exact drew_in2 _ _|exact drew_in _) (Nat.le_refl _) ?_
  simp only [withOps,List.filterMap_cons,List.filterMap_nil,List.getElem?_toArray,List.getElem?_cons_zero,List.getElem?_cons_succ,Option.map_some]
  (repeat (first|(apply walkF_pure (base:=fun p:Ext=>ext _ p) rfl rfl rfl (by kernel_rfl);· (intro px K hK;go_big_quiet_op;first|exact hK|(apply Exists.intro;refine ⟨fun _=>?_,?_⟩;(· ((first|(go_at_call 292;with_reducible exact Gives.inFloat (HM.out _))|(go_at_call 96;with_reducible exact Gives.inFloat (HF.out _)))));exact hK)))|(apply walkF_skip rfl;simp only [Act.put,List.setIfInBounds_toArray,List.set_cons_zero,List.set_cons_succ])))
  refine walkF_nil (end1 (fun Q U hq hU bq=>?_))
  simp only [Act.put,List.setIfInBounds_toArray,List.set_cons_zero,List.set_cons_succ]
  (try simp only [List.filterMap_cons,List.filterMap_nil,List.getElem?_toArray,List.getElem?_cons_zero,List.getElem?_cons_succ])
  have hU1:Up V0 U:=hU
  have HB:=hide (And.intro (HB0.out.1.trans hU1) (And.intro (HB0.out.2.1.up hU1) (And.intro (HB0.out.2.2.up hU1) bq)))
  have q0:=bq.cell 0 rfl
  have q1:=bq.cell 1 rfl
  have q2:=bq.cell 2 rfl
  have q3:=bq.cell 3 rfl
  have lq:=bq.lt
  have fq0:=bq.frozen 0
  have fq1:=bq.frozen 1
  have fq2:=bq.frozen 2
  have fq3:=bq.frozen 3
  have hwQ:w.heap.size≤Q:=by have:=HB0.out.1.below.size;omega
  have n1:w.heap.size≠Q:=by omega
  have n2:w.heap.size+1≠Q:=by omega
  have n3:Q≠w.heap.size+1:=by omega
  have n4:Q≠w.heap.size:=by omega
  clear hU hU1 bq a0 a1 a2 a3 la hyl HB0
  have a0:=HB.out.2.1.cell 0 rfl
  have a1:=HB.out.2.1.cell 1 rfl
  have a2:=HB.out.2.1.cell 2 rfl
  have a3:=HB.out.2.1.cell 3 rfl
  have la:=HB.out.2.1.lt
  have r0:=HB.out.2.2.1.cell 0 rfl
  have r1:=HB.out.2.2.1.cell 1 rfl
  have r2:=HB.out.2.2.1.cell 2 rfl
  have r3:=HB.out.2.2.1.cell 3 rfl
  have lr:=HB.out.2.2.1.lt
  have fr0:=HB.out.2.2.1.frozen 0
  have fr1:=HB.out.2.2.1.frozen 1
  have fr2:=HB.out.2.2.1.frozen 2
  have fr3:=HB.out.2.2.1.frozen 3
  go_wp2_with fail
 · refine forgetW (fun WF=>Up w WF∧Box WF (w.heap.size+1) #[.bool false,.bool SU,.int .i64 0,.int .i64 0] 64) ⟨(by with_reducible repeat (first|exact HB.out.1|exact Up.refl _|apply Up.ext|apply Up.alloc|apply Up.drew|refine Up.setCell ?_ (by simp only;omega) _)),?_⟩ ?_
   · exact (by (repeat (first|with_reducible apply Box.ext|with_reducible apply Box.alloc|with_reducible apply Box.drew));exact ((((((((HB.out.2.2.1.other (b':=Q) n2 0 (.bool false)).other (b':=Q) n2 1 (.bool SU)).other (b':=Q) n2 2 (.int .i64 0)).other (b':=Q) n2 3 (.int .i64 0)).set 0 (.bool false)).set 1 (.bool SU)).set 2 (.int .i64 0)).set 3 (.int .i64 0)))
   rintro WF ⟨huF,hbF⟩
   have w0:=hbF.cell 0 rfl
   have w1:=hbF.cell 1 rfl
   have w2:=hbF.cell 2 rfl
   have w3:=hbF.cell 3 rfl
   (refine bodyPost_give huF rfl ⟨_,(by simp [results,Tryz.results52,go_sem,w0,w1,w2,w3];rfl),?_⟩)
   rfl
 · go_at_call 294
   refine forgetK (fun V=>Up w V∧Box V (w.heap.size+1) #[.bool false,.bool false,.int .i64 0,.int .i64 0] 64∧Box V Q #[.bool true,.bool SU,.int .i64 0,.int .i64 0] 64) ⟨(by with_reducible repeat (first|exact HB.out.1|exact Up.refl _|apply Up.ext|apply Up.alloc|apply Up.drew|refine Up.setCell ?_ (by simp only;omega) _)),(by with_reducible repeat (first|exact HB.out.2.2.1|apply Box.ext|apply Box.alloc|apply Box.drew|refine Box.other ?_ (by omega) _ _)),?_⟩ ?_
   · exact (by (repeat (first|with_reducible apply Box.ext|with_reducible apply Box.alloc|with_reducible apply Box.drew));exact ((((HB.out.2.2.2.set 0 (.bool true)).set 1 (.bool SU)).set 2 (.int .i64 0)).set 3 (.int .i64 0)))
   rintro V ⟨hu,hy,hq2⟩
   have HB2:=hide (And.intro hu (And.intro hy hq2))
   clear HB a0 a1 a2 a3 la r0 r1 r2 r3 lr fr0 fr1 fr2 fr3 q0 q1 q2 q3 lq fq0 fq1 fq2 fq3 hu hy hq2
   refine (HV.out _).mono ?_
   intro pv
   have q0:=HB2.out.2.2.cell 0 rfl
   have q1:=HB2.out.2.2.cell 1 rfl
   have q2:=HB2.out.2.2.cell 2 rfl
   have q3:=HB2.out.2.2.cell 3 rfl
   have lq:=HB2.out.2.2.lt
   have fq2:=HB2.out.2.2.frozen 2
   have fq3:=HB2.out.2.2.frozen 3
   have r0:=HB2.out.2.1.cell 0 rfl
   have r1:=HB2.out.2.1.cell 1 rfl
   have r2:=HB2.out.2.1.cell 2 rfl
   have r3:=HB2.out.2.1.cell 3 rfl
   have lr:=HB2.out.2.1.lt
   have fr0:=HB2.out.2.1.frozen 0
   have fr1:=HB2.out.2.1.frozen 1
   have fr2:=HB2.out.2.1.frozen 2
   have fr3:=HB2.out.2.1.frozen 3
   go_wp2_with fail
   refine forgetW (fun WF=>Up w WF∧Box WF (w.heap.size+1) #[.bool true,.bool SU,.int .i64 (min (max V1 (-1099511627776)) 1099511627776),.int .i64 (min (max V2 (-1099511627776)) 1099511627776)] 64) ⟨(by with_reducible repeat (first|exact HB2.out.1|exact Up.refl _|apply Up.ext|apply Up.alloc|apply Up.drew|refine Up.setCell ?_ (by simp only;omega) _)),?_⟩ ?_
   · exact (by (repeat (first|with_reducible apply Box.ext|with_reducible apply Box.alloc|with_reducible apply Box.drew));exact ((((((HB2.out.2.1.other (b':=Q) n2 2 (.int .i64 (min (max V1 (-1099511627776)) 1099511627776))).other (b':=Q) n2 3 (.int .i64 (min (max V2 (-1099511627776)) 1099511627776))).set 0 (.bool true)).set 1 (.bool SU)).set 2 (.int .i64 (min (max V1 (-1099511627776)) 1099511627776))).set 3 (.int .i64 (min (max V2 (-1099511627776)) 1099511627776))))
   rintro WF ⟨huF,hbF⟩
   have w0:=hbF.cell 0 rfl
   have w1:=hbF.cell 1 rfl
   have w2:=hbF.cell 2 rfl
   have w3:=hbF.cell 3 rfl
   (refine bodyPost_give huF rfl ⟨_,(by simp [results,Tryz.results52,go_sem,w0,w1,w2,w3];rfl),?_⟩)
   rfl
theorem meth_s (k:KndD) (n:Nat) (w:World):(method (n+1) 178 (.agg (scopeA k)) mMay).run Tryz.prog w=.ok (298,.agg (scopeA k)) w∧(method (n+1) 178 (.agg (scopeA k)) mField).run Tryz.prog w=.ok (297,.agg (scopeA k)) w ∧
 (method (n+1) 178 (.agg (scopeA k)) mValues).run Tryz.prog w=.ok (300,.agg (scopeA k)) w∧(method (n+1) 178 (.agg (scopeA k)) mReads).run Tryz.prog w=.ok (299,.agg (scopeA k)) w:=⟨by kernel_rfl,by kernel_rfl,by kernel_rfl,by kernel_rfl⟩
set_option maxRecDepth 100000 in
set_option maxHeartbeats 4000000 in
theorem wview_s {k:KndD} {a:Ar4} (hk:KBd k) (ha:ABd a) (hs:k.sc=true) (w:World):Gives Tryz.prog 52 #[.iface 178 (.agg (scopeA k)),.agg #[.int .i64 (a.1),.int .i64 (a.2.1),.int .i64 (a.2.2.1),.int .i64 (a.2.2.2)]] w (.agg (viewA (viewK k a))):=by
 have HM:=hide (fun W=>wsmay_any hk ha hs W)
 have HV:=hide (fun W=>wsvalues_any hk ha hs W)
 have hm1:=fun (n:Nat) (w:World)=>(meth_s k n w).1
 have hm2:=fun (n:Nat) (w:World)=>(meth_s k n w).2.1
 have hm3:=fun (n:Nat) (w:World)=>(meth_s k n w).2.2.1
 have HF:=hide (fun W=>wall_m (w:=W) 297 hm2 (enters_of Tryz.func297 (by kernel_rfl) rfl) (fieldK k) ha (fun p W2 hp hu2=>wsfield_any hk ((corner_in ha p hp).bd ha) hs W2))
 simp only [mMay,mField,mValues,theName] at hm1 hm2 hm3 HF
 unfold viewK clampS
 generalize mayK k a=MY at *
 generalize (cornersA a).all (fieldK k)=SU at *
 generalize valuesK k a=V at *
 obtain ⟨V1,V2⟩:=V
 obtain ⟨x0,x1,y0,y1⟩:=a
 dsimp only at *
 unfold scopeA at *
 generalize k.wx=wx at *
 generalize k.wy=wy at *
 generalize k.far=fr at *
 generalize k.err=er at *
 generalize k.dx=dx at *
 generalize k.dy=dy at *
 generalize k.lo=lo at *
 generalize k.hi=hi at *
 generalize k.wide=wd at *
 clear hk ha hs hm2
 cases MY
 all_goals
  (unfold Gives;go_enter Tryz.func52,Tryz.ntmps52)
  go_wp2_with fail
  refine forgetW (fun V=>Up w V∧Box V w.heap.size #[.int .i64 (x0),.int .i64 (x1),.int .i64 (y0),.int .i64 (y1)] 61∧Box V (w.heap.size+1) #[.bool false,.bool false,.int .i64 0,.int .i64 0] 64) ⟨(by repeat (first|with_reducible (first|exact Up.refl _|apply Up.plus)|apply Up.ext|apply Up.alloc|apply Up.drew|refine Up.setCell ?_ (by simp;try omega) _)),(by repeat (first|exact Box.mk rfl|(refine Box.mk ?_;simp;done)|apply Box.ext|apply Box.drew|apply Box.alloc|apply Box.two1|refine Box.other ?_ (by omega) _ _)),(by repeat (first|exact Box.mk rfl|(refine Box.mk ?_;simp;done)|apply Box.ext|apply Box.drew|apply Box.alloc|apply Box.two1|refine Box.other ?_ (by omega) _ _))⟩ ?_
  rintro V0 ⟨hu,hx,hy⟩
  have HB0:=hide (And.intro hu (And.intro hx hy))
  have a0:=hx.cell 0 rfl
  have a1:=hx.cell 1 rfl
  have a2:=hx.cell 2 rfl
  have a3:=hx.cell 3 rfl
  have la:=hx.lt
  have hyl:=hy.lt
  clear hu hx hy
  refine wp_region_float (al:=[(9,5,#[.bool false,.bool false,.int .i64 0,.int .i64 0],64)]) (mv:=fun _=>false) [10] [0,1,2,3,4,5,6,7,8] (by kernel_rfl) (by kernel_rfl) (makes1 ⟨_,rfl,rfl,fun _=>rfl,fun _ _=>by simp [go_sem]⟩) (cls_ext _) (by first|exact drew_in2 _ _|exact drew_in _) (Nat.le_refl _) ?_
  simp only [withOps,List.filterMap_cons,List.filterMap_nil,List.getElem?_toArray,List.getElem?_cons_zero,List.getElem?_cons_succ,Option.map_some]
  (repeat (first|(apply walkF_pure (base:=fun p:Ext=>ext _ p) rfl rfl rfl (by kernel_rfl);· (intro px K hK;go_big_quiet_op;first|exact hK|(apply Exists.intro;refine ⟨fun _=>?_,?_⟩;(· ((first|(go_at_call 298;with_reducible exact Gives.inFloat (HM.out _))|(go_at_call 96;with_reducible exact Gives.inFloat (HF.out _)))));exact hK)))|(apply walkF_skip rfl;simp only [Act.put,List.setIfInBounds_toArray,List.set_cons_zero,List.set_cons_succ])))
  refine walkF_nil (end1 (fun Q U hq hU bq=>?_))
  simp only [Act.put,List.setIfInBounds_toArray,List.set_cons_zero,List.set_cons_succ]
  (try simp only [List.filterMap_cons,List.filterMap_nil,List.getElem?_toArray,List.getElem?_cons_zero,List.getElem?_cons_succ])
  have hU1:Up V0 U:=hU
  have HB:=hide (And.intro (HB0.out.1.trans hU1) (And.intro (HB0.out.2.1.up hU1) (And.intro (HB0.out.2.2.up hU1) bq)))
  have q0:=bq.cell 0 rfl
  have q1:=bq.cell 1 rfl
  have q2:=bq.cell 2 rfl
  have q3:=bq.cell 3 rfl
  have lq:=bq.lt
  have fq0:=bq.frozen 0
  have fq1:=bq.frozen 1
  have fq2:=bq.frozen 2
  have fq3:=bq.frozen 3
  have hwQ:w.heap.size≤Q:=by have:=HB0.out.1.below.size;omega
  have n1:w.heap.size≠Q:=by omega
  have n2:w.heap.size+1≠Q:=by omega
  have n3:Q≠w.heap.size+1:=by omega
  have n4:Q≠w.heap.size:=by omega
  clear hU hU1 bq a0 a1 a2 a3 la hyl HB0
  have a0:=HB.out.2.1.cell 0 rfl
  have a1:=HB.out.2.1.cell 1 rfl
  have a2:=HB.out.2.1.cell 2 rfl
  have a3:=HB.out.2.1.cell 3 rfl
  have la:=HB.out.2.1.lt
  have r0:=HB.out.2.2.1.cell 0 rfl
  have r1:=HB.out.2.2.1.cell 1 rfl
  have r2:=HB.out.2.2.1.cell 2 rfl
  have r3:=HB.out.2.2.1.cell 3 rfl
  have lr:=HB.out.2.2.1.lt
  have fr0:=HB.out.2.2.1.frozen 0
  have fr1:=HB.out.2.2.1.frozen 1
  have fr2:=HB.out.2.2.1.frozen 2
  have fr3:=HB.out.2.2.1.frozen 3
  go_wp2_with fail
 · refine forgetW (fun WF=>Up w WF∧Box WF (w.heap.size+1) #[.bool false,.bool SU,.int .i64 0,.int .i64 0] 64) ⟨(by with_reducible repeat (first|exact HB.out.1|exact Up.refl _|apply Up.ext|apply Up.alloc|apply Up.drew|refine Up.setCell ?_ (by simp only;omega) _)),?_⟩ ?_
   · exact (by (repeat (first|with_reducible apply Box.ext|with_reducible apply Box.alloc|with_reducible apply Box.drew));exact ((((((((HB.out.2.2.1.other (b':=Q) n2 0 (.bool false)).other (b':=Q) n2 1 (.bool SU)).other (b':=Q) n2 2 (.int .i64 0)).other (b':=Q) n2 3 (.int .i64 0)).set 0 (.bool false)).set 1 (.bool SU)).set 2 (.int .i64 0)).set 3 (.int .i64 0)))
   rintro WF ⟨huF,hbF⟩
   have w0:=hbF.cell 0 rfl
   have w1:=hbF.cell 1 rfl
   have w2:=hbF.cell 2 rfl
   have w3:=hbF.cell 3 rfl
   (refine bodyPost_give huF rfl ⟨_,(by simp [results,Tryz.results52,go_sem,w0,w1,w2,w3];rfl),?_⟩)
   rfl
 · go_at_call 300
   refine forgetK (fun V=>Up w V∧Box V (w.heap.size+1) #[.bool false,.bool false,.int .i64 0,.int .i64 0] 64∧Box V Q #[.bool true,.bool SU,.int .i64 0,.int .i64 0] 64) ⟨(by with_reducible repeat (first|exact HB.out.1|exact Up.refl _|apply Up.ext|apply Up.alloc|apply Up.drew|refine Up.setCell ?_ (by simp only;omega) _)),(by with_reducible repeat (first|exact HB.out.2.2.1|apply Box.ext|apply Box.alloc|apply Box.drew|refine Box.other ?_ (by omega) _ _)),?_⟩ ?_
   · exact (by (repeat (first|with_reducible apply Box.ext|with_reducible apply Box.alloc|with_reducible apply Box.drew));exact ((((HB.out.2.2.2.set 0 (.bool true)).set 1 (.bool SU)).set 2 (.int .i64 0)).set 3 (.int .i64 0)))
   rintro V ⟨hu,hy,hq2⟩
   have HB2:=hide (And.intro hu (And.intro hy hq2))
   clear HB a0 a1 a2 a3 la r0 r1 r2 r3 lr fr0 fr1 fr2 fr3 q0 q1 q2 q3 lq fq0 fq1 fq2 fq3 hu hy hq2
   refine (HV.out _).mono ?_
   intro pv
   have q0:=HB2.out.2.2.cell 0 rfl
   have q1:=HB2.out.2.2.cell 1 rfl
   have q2:=HB2.out.2.2.cell 2 rfl
   have q3:=HB2.out.2.2.cell 3 rfl
   have lq:=HB2.out.2.2.lt
   have fq2:=HB2.out.2.2.frozen 2
   have fq3:=HB2.out.2.2.frozen 3
   have r0:=HB2.out.2.1.cell 0 rfl
   have r1:=HB2.out.2.1.cell 1 rfl
   have r2:=HB2.out.2.1.cell 2 rfl
   have r3:=HB2.out.2.1.cell 3 rfl
   have lr:=HB2.out.2.1.lt
   have fr0:=HB2.out.2.1.frozen 0
   have fr1:=HB2.out.2.1.frozen 1
   have fr2:=HB2.out.2.1.frozen 2
   have fr3:=HB2.out.2.1.frozen 3
   go_wp2_with fail
   refine forgetW (fun WF=>Up w WF∧Box WF (w.heap.size+1) #[.bool true,.bool SU,.int .i64 (min (max V1 (-1099511627776)) 1099511627776),.int .i64 (min (max V2 (-1099511627776)) 1099511627776)] 64) ⟨(by with_reducible repeat (first|exact HB2.out.1|exact Up.refl _|apply Up.ext|apply Up.alloc|apply Up.drew|refine Up.setCell ?_ (by simp only;omega) _)),?_⟩ ?_
   · exact (by (repeat (first|with_reducible apply Box.ext|with_reducible apply Box.alloc|with_reducible apply Box.drew));exact ((((((HB2.out.2.1.other (b':=Q) n2 2 (.int .i64 (min (max V1 (-1099511627776)) 1099511627776))).other (b':=Q) n2 3 (.int .i64 (min (max V2 (-1099511627776)) 1099511627776))).set 0 (.bool true)).set 1 (.bool SU)).set 2 (.int .i64 (min (max V1 (-1099511627776)) 1099511627776))).set 3 (.int .i64 (min (max V2 (-1099511627776)) 1099511627776))))
   rintro WF ⟨huF,hbF⟩
   have w0:=hbF.cell 0 rfl
   have w1:=hbF.cell 1 rfl
   have w2:=hbF.cell 2 rfl
   have w3:=hbF.cell 3 rfl
   (refine bodyPost_give huF rfl ⟨_,(by simp [results,Tryz.results52,go_sem,w0,w1,w2,w3];rfl),?_⟩)
   rfl
end Go.Proofs.YteafglginnonnaaGreat
/- Package watch: whether a place is in the field; the view of an area. Conditions: what lies in memory. -/
namespace Go.Proofs.YteafglginnonnaaGreat
open Go.RowKit Go.Shelf
structure SkyL (K:Nat→Prop) (w:World) (a:Option Addr) (n c:Nat) (sa:Option Addr) (sn sc:Nat) (ca:Option Addr) (cn cc:Nat) (s:SkyD):Prop where
 b:Bods K w (.slice a n c) s.bodies
 h:I64 s.home
 st:Tris K w (.slice sa sn sc) s.stations
 ca:Tris K w (.slice ca cn cc) s.catalogs
theorem SkyL.up {K:Nat→Prop} {w w':World} {a:Option Addr} {n c:Nat} {sa:Option Addr} {sn sc:Nat} {ca:Option Addr} {cn cc:Nat} {s:SkyD} (h:SkyL K w a n c sa sn sc ca cn cc s) (hu:Up w w'):SkyL K w' a n c sa sn sc ca cn cc s :=
 ⟨h.b.keeps (hu.keeps K),h.h,h.st.keeps (hu.keeps K),h.ca.keeps (hu.keeps K)⟩
theorem wview_k {k:KndD} {a:Ar4} (hk:KBd k) (ha:ABd a) (w:World):Gives Tryz.prog 52 #[kndV k,.agg #[.int .i64 (a.1),.int .i64 (a.2.1),.int .i64 (a.2.2.1),.int .i64 (a.2.2.2)]] w (.agg (viewA (viewK k a))):=by
 unfold kndV
 cases hs:k.sc with
 | true=>rw [if_pos rfl];exact wview_s hk ha hs w
 | false=>rw [if_neg (by simp)];exact wview_r hk ha hs w
set_option maxRecDepth 100000 in
set_option maxHeartbeats 4000000 in
theorem wField_any {K:Nat→Prop} {w:World} {a sa ca:Option Addr} {n c sn sc cn cc:Nat} {s:SkyD} (hL:SkyL K w a n c sa sn sc ca cn cc s) (o:OffD) (p:Int×Int):Gives Tryz.prog 18 #[.agg #[.slice a n c,.int .i64 s.home,.slice sa sn sc,.slice ca cn cc],.agg (offA o),.agg #[.int .i64 (p.1),.int .i64 (p.2)]] w (.bool (fieldV s o p)):=by
 have HC:=hide (fun W (hu:Up w W)=>wcheck_any (hL.up hu).b hL.h (hL.up hu).st (hL.up hu).ca o)
 have HP:=hide (fun W=>wplace_any p.1 p.2 W)
 unfold fieldV
 by_cases he:offE s o=0
 rotate_left
 · rw [decide_eq_false he,Bool.false_and]
   have heb:(offE s o==0)=false:=by simpa using he
   generalize offE s o=e at *
   generalize s.home=home at *
   clear hL he HP
   obtain ⟨p1,p2⟩:=p
   dsimp only
   (unfold Gives;go_enter Tryz.func18,Tryz.ntmps18)
   go_wp2_with fail
   refine forgetW (fun V=>Up w V∧Box V w.heap.size #[.slice a n c,.int .i64 home,.slice sa sn sc,.slice ca cn cc] 29∧Box V (w.heap.size+1) (offA o) 50∧Box V (w.heap.size+1+1) #[.int .i64 (p1),.int .i64 (p2)] 48) ⟨(by repeat (first|with_reducible (first|exact Up.refl _|apply Up.plus)|apply Up.ext|apply Up.alloc|apply Up.drew|refine Up.setCell ?_ (by simp;try omega) _)),(by repeat (first|exact Box.mk rfl|(refine Box.mk ?_;simp;done)|apply Box.ext|apply Box.drew|apply Box.alloc|apply Box.two1|refine Box.other ?_ (by omega) _ _)),(by repeat (first|exact Box.mk rfl|(refine Box.mk ?_;simp;done)|apply Box.ext|apply Box.drew|apply Box.alloc|apply Box.two1|refine Box.other ?_ (by omega) _ _)),(by repeat (first|exact Box.mk rfl|(refine Box.mk ?_;simp;done)|apply Box.ext|apply Box.drew|apply Box.alloc|apply Box.two1|refine Box.other ?_ (by omega) _ _))⟩ ?_
   rintro V ⟨hu,bs,bo,bp⟩
   have s0:=bs.cell 0 rfl
   have s1:=bs.cell 1 rfl
   have s2:=bs.cell 2 rfl
   have s3:=bs.cell 3 rfl
   have ls:=bs.lt
   have f0:=bo.cell 0 rfl
   have f1:=bo.cell 1 rfl
   have f2:=bo.cell 2 rfl
   have f3:=bo.cell 3 rfl
   have f4:=bo.cell 4 rfl
   have f5:=bo.cell 5 rfl
   have f6:=bo.cell 6 rfl
   have f7:=bo.cell 7 rfl
   have f8:=bo.cell 8 rfl
   have f9:=bo.cell 9 rfl
   have f10:=bo.cell 10 rfl
   have lf:=bo.lt
   have g0:=bp.cell 0 rfl
   have g1:=bp.cell 1 rfl
   have lg:=bp.lt
   have HB:=hide hu
   clear hu bs bo bp
   ((first | with_reducible refine wp_region_ext2 (by kernel_rfl) (by kernel_rfl) ?_ | refine wp_region_ext (by kernel_rfl) (by kernel_rfl) ?_);(repeat (go_big_quiet_step ((go_at_call 44;with_reducible exact Gives.inRegion (HC.out _ (HB.out.ext _))))));refine wpQuiet_nil ?_;intro _ hw';obtain ⟨_,hw''⟩:=hw';subst hw'')
   go_wp2
   go_ret
   exact ⟨rfl,(by repeat (first|with_reducible exact HB.out|with_reducible exact Up.refl _|apply Up.ext|apply Up.alloc|apply Up.drew|(refine Up.setCell ?_ (by simp [World.setCell];try omega) _)))⟩
 have HO:=hide (fun W (hu:Up w W)=>wof_any (hL.up hu).b hL.h (hL.up hu).st (hL.up hu).ca he)
 have hk:=kbd_of he
 rw [decide_eq_true he,Bool.true_and]
 rw [he] at HC
 have hp:nearV 33554432 (p.1,p.2)=true→PBd p:=fun h=>(nearV_iff _ _).1 h
 rw [show nearV 33554432 p=nearV 33554432 (p.1,p.2) from rfl]
 by_cases hN:nearV 33554432 (p.1,p.2)=true
 rotate_left
 · rw [show nearV 33554432 (p.1,p.2)=false by simpa using hN,Bool.false_and]
   rw [show nearV 33554432 (p.1,p.2)=false by simpa using hN] at HP
   generalize s.home=home at *
   clear hL he hk hp hN HO
   obtain ⟨p1,p2⟩:=p
   dsimp only at *
   (unfold Gives;go_enter Tryz.func18,Tryz.ntmps18)
   go_wp2_with fail
   refine forgetW (fun V=>Up w V∧Box V w.heap.size #[.slice a n c,.int .i64 home,.slice sa sn sc,.slice ca cn cc] 29∧Box V (w.heap.size+1) (offA o) 50∧Box V (w.heap.size+1+1) #[.int .i64 (p1),.int .i64 (p2)] 48) ⟨(by repeat (first|with_reducible (first|exact Up.refl _|apply Up.plus)|apply Up.ext|apply Up.alloc|apply Up.drew|refine Up.setCell ?_ (by simp;try omega) _)),(by repeat (first|exact Box.mk rfl|(refine Box.mk ?_;simp;done)|apply Box.ext|apply Box.drew|apply Box.alloc|apply Box.two1|refine Box.other ?_ (by omega) _ _)),(by repeat (first|exact Box.mk rfl|(refine Box.mk ?_;simp;done)|apply Box.ext|apply Box.drew|apply Box.alloc|apply Box.two1|refine Box.other ?_ (by omega) _ _)),(by repeat (first|exact Box.mk rfl|(refine Box.mk ?_;simp;done)|apply Box.ext|apply Box.drew|apply Box.alloc|apply Box.two1|refine Box.other ?_ (by omega) _ _))⟩ ?_
   rintro V ⟨hu,bs,bo,bp⟩
   have s0:=bs.cell 0 rfl
   have s1:=bs.cell 1 rfl
   have s2:=bs.cell 2 rfl
   have s3:=bs.cell 3 rfl
   have ls:=bs.lt
   have f0:=bo.cell 0 rfl
   have f1:=bo.cell 1 rfl
   have f2:=bo.cell 2 rfl
   have f3:=bo.cell 3 rfl
   have f4:=bo.cell 4 rfl
   have f5:=bo.cell 5 rfl
   have f6:=bo.cell 6 rfl
   have f7:=bo.cell 7 rfl
   have f8:=bo.cell 8 rfl
   have f9:=bo.cell 9 rfl
   have f10:=bo.cell 10 rfl
   have lf:=bo.lt
   have g0:=bp.cell 0 rfl
   have g1:=bp.cell 1 rfl
   have lg:=bp.lt
   have HB:=hide hu
   clear hu bs bo bp
   ((first | with_reducible refine wp_region_ext2 (by kernel_rfl) (by kernel_rfl) ?_ | refine wp_region_ext (by kernel_rfl) (by kernel_rfl) ?_);(repeat (go_big_quiet_step ((first | (go_at_call 44;with_reducible exact Gives.inRegion (HC.out _ (HB.out.ext _))) | (go_at_call 49;with_reducible exact Gives.inRegion (HP.out _))))));refine wpQuiet_nil ?_;intro _ hw';obtain ⟨_,hw''⟩:=hw';subst hw'')
   go_wp2
   go_ret
   exact ⟨rfl,(by repeat (first|with_reducible exact HB.out|with_reducible exact Up.refl _|apply Up.ext|apply Up.alloc|apply Up.drew|(refine Up.setCell ?_ (by simp [World.setCell];try omega) _)))⟩
 have hpb:=hp hN
 rw [hN] at HP
 rw [hN,Bool.true_and]
 generalize kndOf s o=k at *
 unfold kndV at HO
 cases hs:k.sc
 · rw [if_neg (by simp [hs])] at HO
   have HF:=hide (fun W=>wrfield_any hk hpb hs W)
   have hm:=fun (n:Nat) (w:World)=>(meth_r k n w).2.1
   simp only [mField,theName] at hm
   generalize fieldK k p=F at *
   generalize s.home=home at *
   clear hL he hp hN hk hpb hs
   obtain ⟨p1,p2⟩:=p
   dsimp only at *
   (unfold Gives;go_enter Tryz.func18,Tryz.ntmps18)
   go_wp2_with fail
   refine forgetW (fun V=>Up w V∧Box V w.heap.size #[.slice a n c,.int .i64 home,.slice sa sn sc,.slice ca cn cc] 29∧Box V (w.heap.size+1) (offA o) 50∧Box V (w.heap.size+1+1) #[.int .i64 (p1),.int .i64 (p2)] 48) ⟨(by repeat (first|with_reducible (first|exact Up.refl _|apply Up.plus)|apply Up.ext|apply Up.alloc|apply Up.drew|refine Up.setCell ?_ (by simp;try omega) _)),(by repeat (first|exact Box.mk rfl|(refine Box.mk ?_;simp;done)|apply Box.ext|apply Box.drew|apply Box.alloc|apply Box.two1|refine Box.other ?_ (by omega) _ _)),(by repeat (first|exact Box.mk rfl|(refine Box.mk ?_;simp;done)|apply Box.ext|apply Box.drew|apply Box.alloc|apply Box.two1|refine Box.other ?_ (by omega) _ _)),(by repeat (first|exact Box.mk rfl|(refine Box.mk ?_;simp;done)|apply Box.ext|apply Box.drew|apply Box.alloc|apply Box.two1|refine Box.other ?_ (by omega) _ _))⟩ ?_
   rintro V ⟨hu,bs,bo,bp⟩
   have s0:=bs.cell 0 rfl
   have s1:=bs.cell 1 rfl
   have s2:=bs.cell 2 rfl
   have s3:=bs.cell 3 rfl
   have ls:=bs.lt
   have f0:=bo.cell 0 rfl
   have f1:=bo.cell 1 rfl
   have f2:=bo.cell 2 rfl
   have f3:=bo.cell 3 rfl
   have f4:=bo.cell 4 rfl
   have f5:=bo.cell 5 rfl
   have f6:=bo.cell 6 rfl
   have f7:=bo.cell 7 rfl
   have f8:=bo.cell 8 rfl
   have f9:=bo.cell 9 rfl
   have f10:=bo.cell 10 rfl
   have lf:=bo.lt
   have g0:=bp.cell 0 rfl
   have g1:=bp.cell 1 rfl
   have lg:=bp.lt
   have HB:=hide hu
   clear hu bs bo bp
   ((first | with_reducible refine wp_region_ext2 (by kernel_rfl) (by kernel_rfl) ?_ | refine wp_region_ext (by kernel_rfl) (by kernel_rfl) ?_);(repeat (go_big_quiet_step ((first | (go_at_call 44;with_reducible exact Gives.inRegion (HC.out _ (HB.out.ext _))) | (go_at_call 49;with_reducible exact Gives.inRegion (HP.out _)) | (go_at_call 50;with_reducible exact Gives.inRegion (HO.out _ (HB.out.ext _))) | (go_at_call 291;with_reducible exact Gives.inRegion (HF.out _))))));refine wpQuiet_nil ?_;intro _ hw';obtain ⟨_,hw''⟩:=hw';subst hw'')
   go_wp2
   go_ret
   exact ⟨rfl,(by repeat (first|with_reducible exact HB.out|with_reducible exact Up.refl _|apply Up.ext|apply Up.alloc|apply Up.drew|(refine Up.setCell ?_ (by simp [World.setCell];try omega) _)))⟩
 · rw [if_pos (by simp [hs])] at HO
   have HF:=hide (fun W=>wsfield_any hk hpb hs W)
   have hm:=fun (n:Nat) (w:World)=>(meth_s k n w).2.1
   simp only [mField,theName] at hm
   generalize fieldK k p=F at *
   generalize s.home=home at *
   clear hL he hp hN hk hpb hs
   obtain ⟨p1,p2⟩:=p
   dsimp only at *
   (unfold Gives;go_enter Tryz.func18,Tryz.ntmps18)
   go_wp2_with fail
   refine forgetW (fun V=>Up w V∧Box V w.heap.size #[.slice a n c,.int .i64 home,.slice sa sn sc,.slice ca cn cc] 29∧Box V (w.heap.size+1) (offA o) 50∧Box V (w.heap.size+1+1) #[.int .i64 (p1),.int .i64 (p2)] 48) ⟨(by repeat (first|with_reducible (first|exact Up.refl _|apply Up.plus)|apply Up.ext|apply Up.alloc|apply Up.drew|refine Up.setCell ?_ (by simp;try omega) _)),(by repeat (first|exact Box.mk rfl|(refine Box.mk ?_;simp;done)|apply Box.ext|apply Box.drew|apply Box.alloc|apply Box.two1|refine Box.other ?_ (by omega) _ _)),(by repeat (first|exact Box.mk rfl|(refine Box.mk ?_;simp;done)|apply Box.ext|apply Box.drew|apply Box.alloc|apply Box.two1|refine Box.other ?_ (by omega) _ _)),(by repeat (first|exact Box.mk rfl|(refine Box.mk ?_;simp;done)|apply Box.ext|apply Box.drew|apply Box.alloc|apply Box.two1|refine Box.other ?_ (by omega) _ _))⟩ ?_
   rintro V ⟨hu,bs,bo,bp⟩
   have s0:=bs.cell 0 rfl
   have s1:=bs.cell 1 rfl
   have s2:=bs.cell 2 rfl
   have s3:=bs.cell 3 rfl
   have ls:=bs.lt
   have f0:=bo.cell 0 rfl
   have f1:=bo.cell 1 rfl
   have f2:=bo.cell 2 rfl
   have f3:=bo.cell 3 rfl
   have f4:=bo.cell 4 rfl
   have f5:=bo.cell 5 rfl
   have f6:=bo.cell 6 rfl
   have f7:=bo.cell 7 rfl
   have f8:=bo.cell 8 rfl
   have f9:=bo.cell 9 rfl
   have f10:=bo.cell 10 rfl
   have lf:=bo.lt
   have g0:=bp.cell 0 rfl
   have g1:=bp.cell 1 rfl
   have lg:=bp.lt
   have HB:=hide hu
   clear hu bs bo bp
   ((first | with_reducible refine wp_region_ext2 (by kernel_rfl) (by kernel_rfl) ?_ | refine wp_region_ext (by kernel_rfl) (by kernel_rfl) ?_);(repeat (go_big_quiet_step ((first | (go_at_call 44;with_reducible exact Gives.inRegion (HC.out _ (HB.out.ext _))) | (go_at_call 49;with_reducible exact Gives.inRegion (HP.out _)) | (go_at_call 50;with_reducible exact Gives.inRegion (HO.out _ (HB.out.ext _))) | (go_at_call 297;with_reducible exact Gives.inRegion (HF.out _))))));refine wpQuiet_nil ?_;intro _ hw';obtain ⟨_,hw''⟩:=hw';subst hw'')
   go_wp2
   go_ret
   exact ⟨rfl,(by repeat (first|with_reducible exact HB.out|with_reducible exact Up.refl _|apply Up.ext|apply Up.alloc|apply Up.drew|(refine Up.setCell ?_ (by simp [World.setCell];try omega) _)))⟩
end Go.Proofs.YteafglginnonnaaGreat
