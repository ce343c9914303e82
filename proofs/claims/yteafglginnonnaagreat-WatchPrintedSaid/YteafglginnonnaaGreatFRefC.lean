/- Several texts in one. -/
import Derived.Test.YteafglginnonnaaGreatFRefS
import Derived.Test.YteafglginnonnaaGreatForceG
import Derived.Test.YteafglginnonnaaGreatEnergy
/- The reference of package force: the pull of one body; a question about it. Conditions: what lies in memory. -/
set_option linter.unusedVariables false
set_option linter.unusedSimpArgs false
namespace Go.Proofs.YteafglginnonnaaGreat
set_option maxHeartbeats 4000000
set_option maxRecDepth 100000
open Go.RowKit Go.Shelf
theorem sAt_of {K:Nat→Prop} {w:World} {a:Option Addr} {n c:Nat} {bs:List Bod} {home t:Int} {i:Nat} {b:Bod} (hl:Bods K w (.slice a n c) bs) (hh:I64 home) (hv:worldE bs home=0) (hi:bs[i]?=some b) (t0:0≤t) (t1:t≤1073741824) :
 Gives Tryz.prog 110 #[.agg #[.slice a n c,.int .i64 home],.int .i64 i,.int .i64 t] w (.agg #[.int .i64 (placeV b t).1,.int .i64 (placeV b t).2]):=by
 have h:=sAt_any hl hh (i:Int) t
 have hlt:=(List.getElem?_eq_some_iff.1 hi).1
 have e:atW bs home i t=placeV b t:=by
  unfold atW
  rw [if_pos ⟨hv,by omega,by omega,by simp [withinB];omega⟩]
  have:bs.getD (i:Int).toNat ⟨0,0,[]⟩=b:=by simp [List.getD,hi]
  rw [this]
 rw [e] at h
 exact h
theorem g_bounded2 (a b:Int) (w:World):Gives Tryz.prog 208 #[.agg #[.int .i64 (a),.int .i64 (b)]] w (.agg #[.int .i64 (clampP (a,b)).1,.int .i64 (clampP (a,b)).2]):=g_bounded (a,b) w
theorem g_one {K:Nat→Prop} {w:World} {a:Option Addr} {n c:Nat} {bs:List Bod} {home t:Int} {i:Nat} {b:Bod} (hl:Bods K w (.slice a n c) bs) (hh:I64 home) (hv:worldE bs home=0) (hi:bs[i]?=some b) (t0:0≤t) (t1:t≤1073741824) (x0 x1 y0 y1:Int) :
 Gives Tryz.prog 186 #[.agg #[.slice a n c,.int .i64 home],.int .i64 i,.int .i64 t,.agg #[.int .i64 (x0),.int .i64 (x1),.int .i64 (y0),.int .i64 (y1)]] w (.agg #[.int .i64 (pullB t (x0,x1,y0,y1) b).1,.int .i64 (pullB t (x0,x1,y0,y1) b).2.1,.int .i64 (pullB t (x0,x1,y0,y1) b).2.2.1,.int .i64 (pullB t (x0,x1,y0,y1) b).2.2.2]):=by
 have hlt:=(List.getElem?_eq_some_iff.1 hi).1
 have hn:=(Bods.at hl).1
 obtain ⟨bb,bo,b',ta,tn,tc,rfl,_,hbl,hb',_,d0,d1,d2,_⟩:=(Bods.at hl).2.2 i (by omega)
 rw [hi] at hb'
 obtain rfl:b=b':=Option.some.inj hb'
 have hbd:=bodyE_zero ((worldE_zero hv).2.2.1 _ (List.mem_of_getElem? hi))
 have KA:=hide (fun W (hu:Up w W)=>sAt_of (hl.keeps (hu.keeps K)) hh hv hi t0 t1)
 obtain ⟨p1,p2,hp⟩:∃ p1 p2,placeV b t=(p1,p2):=⟨_,_,rfl⟩
 simp only [hp] at KA
 have HP:=hide hp
 have hltn:i<n:=by omega
 have hib:decide (i<n)=true:=by simp;omega
 have KT:=hide (fun W=>g_to p1 p2 x0 x1 y0 y1 W)
 obtain ⟨v,hv4⟩:∃ v:Ar,(( (subP (p1,p1) (x0,x1)).1,(subP (p1,p1) (x0,x1)).2,(subP (p2,p2) (y0,y1)).1,(subP (p2,p2) (y0,y1)).2):Ar)=v:=⟨_,rfl⟩
 obtain ⟨v1,v2,v3,v4⟩:=v
 simp only [Prod.mk.injEq] at hv4
 obtain ⟨e1,e2,e3,e4⟩:=hv4
 rw [e1,e2,e3,e4] at KT
 have KD:=hide (fun W=>g_dist b.mu b.radius (.slice ta tn tc) v1 v2 v3 v4 hbd.2.1.1 hbd.2.1.2 W)
 have HV:=hide (And.intro e1 (And.intro e2 (And.intro e3 e4)))
 obtain ⟨mu,hmu⟩:∃ m,b.mu=m:=⟨_,rfl⟩
 obtain ⟨rd,hrd⟩:∃ m,b.radius=m:=⟨_,rfl⟩
 rw [hmu] at KD d0
 rw [hrd] at KD d1
 obtain ⟨s1,s2,hs⟩:∃ x y,sqP rd (v1,v2,v3,v4)=(x,y):=⟨_,_,rfl⟩
 obtain ⟨r1,r2,hr⟩:∃ x y,distP rd (v1,v2,v3,v4)=(x,y):=⟨_,_,rfl⟩
 simp only [hs,hr] at KD
 obtain ⟨c1,c2,hc1⟩:∃ x y,scaledP mu (v1,v2) (s1,s2)=(x,y):=⟨_,_,rfl⟩
 obtain ⟨c3,c4,hc2⟩:∃ x y,scaledP mu (v3,v4) (s1,s2)=(x,y):=⟨_,_,rfl⟩
 obtain ⟨k1,k2,hk1⟩:∃ x y,quotP (c1,c2) (r1,r2)=(x,y):=⟨_,_,rfl⟩
 obtain ⟨k3,k4,hk2⟩:∃ x y,quotP (c3,c4) (r1,r2)=(x,y):=⟨_,_,rfl⟩
 obtain ⟨f1,f2,hf1⟩:∃ x y,clampP (k1,k2)=(x,y):=⟨_,_,rfl⟩
 obtain ⟨f3,f4,hf2⟩:∃ x y,clampP (k3,k4)=(x,y):=⟨_,_,rfl⟩
 have KS1:=hide (fun W=>show Gives Tryz.prog 210 #[.int .i64 mu,.agg #[.int .i64 (v1),.int .i64 (v2)],.agg #[.int .i64 (s1),.int .i64 (s2)]] W (.agg #[.int .i64 (c1),.int .i64 (c2)]) by have:=g_scaled mu v1 v2 s1 s2 W;rw [hc1] at this;exact this)
 have KS2:=hide (fun W=>show Gives Tryz.prog 210 #[.int .i64 mu,.agg #[.int .i64 (v3),.int .i64 (v4)],.agg #[.int .i64 (s1),.int .i64 (s2)]] W (.agg #[.int .i64 (c3),.int .i64 (c4)]) by have:=g_scaled mu v3 v4 s1 s2 W;rw [hc2] at this;exact this)
 have KQ1:=hide (fun W=>show Gives Tryz.prog 209 #[.agg #[.int .i64 (c1),.int .i64 (c2)],.agg #[.int .i64 (r1),.int .i64 (r2)]] W (.agg #[.int .i64 (k1),.int .i64 (k2)]) by have:=g_quotient4 c1 c2 r1 r2 W;rw [hk1] at this;exact this)
 have KQ2:=hide (fun W=>show Gives Tryz.prog 209 #[.agg #[.int .i64 (c3),.int .i64 (c4)],.agg #[.int .i64 (r1),.int .i64 (r2)]] W (.agg #[.int .i64 (k3),.int .i64 (k4)]) by have:=g_quotient4 c3 c4 r1 r2 W;rw [hk2] at this;exact this)
 have KB1:=hide (fun W=>show Gives Tryz.prog 208 #[.agg #[.int .i64 (k1),.int .i64 (k2)]] W (.agg #[.int .i64 (f1),.int .i64 (f2)]) by have:=g_bounded2 k1 k2 W;rw [hf1] at this;exact this)
 have KB2:=hide (fun W=>show Gives Tryz.prog 208 #[.agg #[.int .i64 (k3),.int .i64 (k4)]] W (.agg #[.int .i64 (f3),.int .i64 (f4)]) by have:=g_bounded2 k3 k4 W;rw [hf2] at this;exact this)
 have HR:=hide (show pullB t (x0,x1,y0,y1) b=(f1,f2,f3,f4) by
  have e0:toP (p1,p2) (x0,x1,y0,y1)=(v1,v2,v3,v4):=by rw [← e1,← e2,← e3,← e4];rfl
  unfold pullB pullP
  rw [hp,e0,hmu,hrd,hs,hr]
  show mkA (clampP (quotP (scaledP mu (v1,v2) (s1,s2)) (r1,r2))) (clampP (quotP (scaledP mu (v3,v4) (s1,s2)) (r1,r2)))=_
  rw [hc1,hc2,hk1,hk2,hf1,hf2]
  rfl)
 clear hc1 hc2 hk1 hk2 hf1 hf2
 have up3:=fun (o1 o2 o3:Obj)=>(((Up.refl w).alloc o1).alloc o2).alloc o3
 have D0:=fun (o1 o2 o3:Obj)=>(World.cell?_of_block (a:=⟨bb,bo+i*3,none⟩) ((up3 o1 o2 o3).below.block bb hbl)).trans d0
 have D1:=fun (o1 o2 o3:Obj)=>(World.cell?_of_block (a:=⟨bb,bo+i*3+1,none⟩) ((up3 o1 o2 o3).below.block bb hbl)).trans d1
 have D2:=fun (o1 o2 o3:Obj)=>(World.cell?_of_block (a:=⟨bb,bo+i*3+2,none⟩) ((up3 o1 o2 o3).below.block bb hbl)).trans d2
 clear up3 d0 d1 d2
 clear hl hh hv hi hb' hbd hp e1 e2 e3 e4 hmu hrd hs hr hn
 (unfold Gives;go_enter Tryz.func186,Tryz.ntmps186)
 go_wp2_with fail
 clear D0 D1 D2
 refine forgetW (fun W=>Up w W∧Box W w.heap.size #[.slice (some ⟨bb,bo,none⟩) n c,.int .i64 home] 25∧Box W (w.heap.size+1) #[.int .i64 (x0),.int .i64 (x1),.int .i64 (y0),.int .i64 (y1)] 61∧Box W (w.heap.size+1+1) #[.int .i64 (0),.int .i64 (0),.int .i64 (0),.int .i64 (0)] 61∧Box W (w.heap.size+1+1+1) #[.int .i64 mu,.int .i64 rd,.slice ta tn tc] 110) ⟨Up.go,Box.go,Box.go,Box.go,Box.go⟩ ?_
 rintro W1 ⟨hu,bw,ba,bz,bb1⟩
 obtain ⟨w0,w1⟩:=bw.c2
 obtain ⟨a0,a1,a2,a3⟩:=ba.c4
 have lb:=bb1.lt
 have HB:=hide (And.intro hu (And.intro bz bb1))
 clear hu bw ba bz bb1
 refine wp_region_floatz (al:=[(9,10,#[.int .i64 (0),.int .i64 (0)],31),(10,11,#[.int .i64 (0),.int .i64 (0)],31)]) (mv:=fun _=>false) 8 [11,12] [0,1,2,3,4,5,6,7,8] (by kernel_rfl) (by kernel_rfl) rfl (fun _=>rfl) (fun _ _ _ _ h=>h) (makes2 ⟨_,rfl,rfl,fun _=>rfl,fun _ _=>by simp [go_sem]⟩ ⟨_,rfl,rfl,fun _=>rfl,fun _ _=>by simp [go_sem]⟩) (cls_ext _) (by first|exact drew_in2 _ _|exact drew_in _) (Nat.le_refl _) ?_
 simp only [withOps,List.filterMap_cons,List.filterMap_nil,List.getElem?_toArray,List.getElem?_cons_zero,List.getElem?_cons_succ,Option.map_some]
 (repeat (first|(apply walkF_pure (base:=fun p:Ext=>ext _ p) rfl rfl rfl (by kernel_rfl);· (intro px K hK;go_big_quiet_op;first|exact hK|(apply Exists.intro;refine ⟨fun _=>?_,?_⟩;(· ((first|(go_at_call 110;with_reducible exact Gives.inFloat (KA.out _ (Up.ext HB.out.1 _)))|(go_at_call 206;with_reducible exact Gives.inFloat (KT.out _)))));exact hK)))|(apply walkF_skip rfl;simp only [Act.put,List.setIfInBounds_toArray,List.set_cons_zero,List.set_cons_succ])))
 refine walkF_lazy (.agg #[.int .i64 (v3),.int .i64 (v4)]) rfl rfl (fun _=>by simp [go_sem]) ?_
 simp only [Act.put,List.setIfInBounds_toArray,List.set_cons_zero,List.set_cons_succ]
 refine walkF_nil (end2 (by decide) (fun g1 g2 W2 hg1 hg2 hg12 hW2 z1 z2=>?_))
 simp only [Act.put,List.setIfInBounds_toArray,List.set_cons_zero,List.set_cons_succ]
 (try simp only [List.filterMap_cons,List.filterMap_nil,List.getElem?_toArray,List.getElem?_cons_zero,List.getElem?_cons_succ])
 have hU:Up W1 W2:=hW2
 clear w0 w1 a0 a1 a2 a3
 have bb2:=HB.out.2.2.up hU
 obtain ⟨kc0,kc1,kc2⟩:=bb2.c3
 have lk:=bb2.lt
 obtain ⟨xc0,xc1⟩:=z1.c2
 have lx:=z1.lt
 obtain ⟨fx0,fx1⟩:=z1.f2
 obtain ⟨yc0,yc1⟩:=z2.c2
 have ly:=z2.lt
 obtain ⟨fy0,fy1⟩:=z2.f2
 have n1:w.heap.size+1+1+1≠g1:=by omega
 have n2:w.heap.size+1+1+1≠g2:=by omega
 have n3:w.heap.size+1+1≠g1:=by omega
 have n4:w.heap.size+1+1≠g2:=by omega
 have n5:g2≠g1:=fun e=>hg12 e.symm
 have hwl:=HB.out.1.below.size
 have HZ:=hide (And.intro (HB.out.1.trans hU) (And.intro (HB.out.2.1.up hU) (And.intro bb2 (And.intro z1 z2))))
 clear HB hU hW2 bb2 z1 z2 lb
 go_wp2_with fail
 go_at_call 207
 refine forgetE (fun V=>Up w V∧Box V (w.heap.size+1+1) #[.int .i64 (0),.int .i64 (0),.int .i64 (0),.int .i64 (0)] 61∧Box V (w.heap.size+1+1+1) #[.int .i64 mu,.int .i64 rd,.slice ta tn tc] 110∧Box V g1 #[.int .i64 (v1),.int .i64 (v2)] 31∧Box V g2 #[.int .i64 (v3),.int .i64 (v4)] 31) ⟨?_,?_,?_,?_,?_⟩ ?_
 · exact (Up.viz HZ.out.1)
 · exact (Box.viz HZ.out.2.1)
 · exact (Box.viz HZ.out.2.2.1)
 · exact (((HZ.out.2.2.2.1.set 0 (.int .i64 v1)).set 1 (.int .i64 v2)).other hg12 _ _).other hg12 _ _
 · exact ((((HZ.out.2.2.2.2.other n5 _ _).other n5 _ _).set 0 (.int .i64 v3)).set 1 (.int .i64 v4))
 rintro V ⟨hu,bz,bb3,b1,b2⟩
 clear HZ kc0 kc1 kc2 lk xc0 xc1 lx fx0 fx1 yc0 yc1 ly fy0 fy1
 refine (KD.out _).mono ?_
 intro pd
 go_wp2_with fail
 obtain ⟨S,hS⟩:∃ T,V.heap.size+pd.os.size=T:=⟨_,rfl⟩
 rw [hS]
 refine forgetW (fun Y=>Up w Y∧Box Y (w.heap.size+1+1) #[.int .i64 (0),.int .i64 (0),.int .i64 (0),.int .i64 (0)] 61∧Box Y (w.heap.size+1+1+1) #[.int .i64 mu,.int .i64 rd,.slice ta tn tc] 110∧Box Y g1 #[.int .i64 (v1),.int .i64 (v2)] 31∧Box Y g2 #[.int .i64 (v3),.int .i64 (v4)] 31∧Box Y S #[.int .i64 (s1),.int .i64 (s2)] 31∧Box Y (S+1) #[.int .i64 (r1),.int .i64 (r2)] 31) ⟨?_,?_,?_,?_,?_,?_,?_⟩ ?_
 · exact (Up.viz hu)
 · exact (Box.viz bz)
 · exact (Box.viz bb3)
 · exact (Box.viz b1)
 · exact (Box.viz b2)
 · rw [← hS];exact Box.go
 · rw [← hS];exact Box.go
 rintro Y ⟨hu,bz,bb3,b1,b2,bs1,br1⟩
 obtain ⟨m0,m1,m2⟩:=bb3.c3
 have lm:=bb3.lt
 obtain ⟨xc0,xc1⟩:=b1.c2
 have lx:=b1.lt
 obtain ⟨yc0,yc1⟩:=b2.c2
 have ly:=b2.lt
 obtain ⟨u0,u1⟩:=bs1.c2
 have lu:=bs1.lt
 obtain ⟨z0,z1⟩:=br1.c2
 have lz:=br1.lt
 obtain ⟨o0,o1,o2,o3⟩:=bz.c4
 have lo:=bz.lt
 obtain ⟨fo0,fo1,fo2,fo3⟩:=bz.f4
 have HY:=hide (And.intro hu bz)
 clear hu bz bb3 b1 b2 bs1 br1
 ((first | with_reducible refine wp_region_ext_tail2 1 (by kernel_rfl) (by kernel_rfl) ?_ | refine wp_region_ext_tail 1 (by kernel_rfl) (by kernel_rfl) ?_);simp only [List.length_cons,List.length_nil,Nat.reduceAdd,Nat.reduceSub,List.take_succ_cons,List.take_zero,List.drop_succ_cons,List.drop_zero];(repeat (go_big_quiet_step ((first | (go_at_call 210;with_reducible exact Gives.inRegion (KS1.out _)) | (go_at_call 210;with_reducible exact Gives.inRegion (KS2.out _)) | (go_at_call 209;with_reducible exact Gives.inRegion (KQ1.out _)) | (go_at_call 209;with_reducible exact Gives.inRegion (KQ2.out _)) | (go_at_call 208;with_reducible exact Gives.inRegion (KB1.out _)) | (go_at_call 208;with_reducible exact Gives.inRegion (KB2.out _))))));refine wpQuiet_nil ?_;intro _ hw';obtain ⟨_,hw''⟩:=hw';subst hw'')
 go_wp2_with fail
 refine forgetW (fun WF=>Up w WF∧Box WF (w.heap.size+1+1) #[.int .i64 (f1),.int .i64 (f2),.int .i64 (f3),.int .i64 (f4)] 61) ⟨(Up.viz HY.out.1),(by (repeat (first|with_reducible apply Box.ext|with_reducible apply Box.alloc|with_reducible apply Box.drew));exact ((((HY.out.2.set 0 (.int .i64 f1)).set 1 (.int .i64 f2)).set 2 (.int .i64 f3)).set 3 (.int .i64 f4)))⟩ ?_
 rintro WF ⟨huF,hbF⟩
 obtain ⟨zF0,zF1,zF2,zF3⟩:=hbF.c4
 (refine bodyPost_give huF rfl ⟨_,(by simp [results,Tryz.results186,go_sem,zF0,zF1,zF2,zF3];rfl),?_⟩)
 rw [HR.out]
theorem g_at (x y:Int) (w:World):Gives Tryz.prog 154 #[.agg #[.int .i64 (x),.int .i64 (y)]] w (.agg #[.int .i64 (x),.int .i64 (x),.int .i64 (y),.int .i64 (y)]):=by
 (unfold Gives;go_enter Tryz.func154,Tryz.ntmps154)
 go_wp2
 all_goals (refine bodyPost_give Up.go rfl ⟨_,(by simp [results,Tryz.results154,go_sem];rfl),?_⟩)
 all_goals rfl
theorem part_bd (a b:Sp):(-1152921504606846976≤(partP a b).1∧(partP a b).1≤1152921504606846976) ∧ -1152921504606846976≤(partP a b).2∧(partP a b).2≤1152921504606846976:=quotP_bd _ _
theorem g_Light {K:Nat→Prop} {w:World} {a:Option Addr} {n c:Nat} {bs:List Bod} {home:Int} (hl:Bods K w (.slice a n c) bs) (hh:I64 home) (l h:Sp) (g t:Int) (x:Ar) :
 Gives Tryz.prog 184 #[.agg #[.slice a n c,.int .i64 home],.agg #[.int .i64 l.1,.int .i64 l.2,.int .i64 h.1,.int .i64 h.2,.int .i64 g],.int .i64 t,.agg #[.int .i64 x.1,.int .i64 x.2.1,.int .i64 x.2.2.1,.int .i64 x.2.2.2]] w (.tuple #[.agg #[.int .i64 ((lightV bs home l h g t x).1).1,.int .i64 ((lightV bs home l h g t x).1).2.1,.int .i64 ((lightV bs home l h g t x).1).2.2.1,.int .i64 ((lightV bs home l h g t x).1).2.2.2],.int .i64 (lightV bs home l h g t x).2]):=by
 obtain ⟨x0,x1,y0,y1⟩:=x
 have HA:=hide (fun W (hu:Up w W)=>g_asked (hl.keeps (hu.keeps K)) hh l h g t x0 x1 y0 y1)
 unfold lightV
 by_cases he:askedE bs home l h g t (x0,x1,y0,y1)=0
 · rw [if_pos he]
   obtain ⟨h1,_,⟨h2,h3⟩,_⟩:=asked_zero he
   rw [he] at HA
   have hi:0<bs.length:=List.length_pos_iff.2 (worldE_zero h1).1
   have K1:=hide (fun W (hu:Up w W)=>g_one (hl.keeps (hu.keeps K)) hh h1 (i:=0) (b:=bs[0]) (List.getElem?_eq_getElem hi) h2 h3 x0 x1 y0 y1)
   rw [show bs.getD 0 ⟨0,0,[]⟩=bs[0] by simp [List.getD,List.getElem?_eq_getElem hi]]
   generalize pullB t (x0,x1,y0,y1) bs[0]=R at *
   obtain ⟨R1,R2,R3,R4⟩:=R
   obtain ⟨l1,l2⟩:=l
   have K3:=hide (fun W=>g_thousandth l1 l2 R1 R2 W)
   have K4:=hide (fun W=>g_thousandth l1 l2 R3 R4 W)
   have b1:=part_bd (l1,l2) (R1,R2)
   have b2:=part_bd (l1,l2) (R3,R4)
   obtain ⟨u1,u2,hu⟩:∃ u1 u2,partP (l1,l2) (R1,R2)=(u1,u2):=⟨_,_,rfl⟩
   obtain ⟨v1,v2,hv⟩:∃ v1 v2,partP (l1,l2) (R3,R4)=(v1,v2):=⟨_,_,rfl⟩
   rw [hu] at K3 b1
   rw [hv] at K4 b2
   simp only at b1 b2 K3 K4
   have HS:=hide (show lightP (l1,l2) (R1,R2,R3,R4)=(-u2,-u1,-v2,-v1) by unfold lightP arX arY;simp only;rw [hu,hv];rfl)
   clear hl he h1 hi hu hv
   dsimp only at HA
   (unfold Gives;go_enter Tryz.func184,Tryz.ntmps184)
   go_wp2_with (first|(go_at_call 183;refine (HA.out _ Up.go).mono ?_;intro _)|(go_at_call 186;refine (K1.out _ Up.go).mono ?_;intro _))
   ((first | with_reducible refine wp_region_ext_tail2 2 (by kernel_rfl) (by kernel_rfl) ?_ | refine wp_region_ext_tail 2 (by kernel_rfl) (by kernel_rfl) ?_);simp only [List.length_cons,List.length_nil,Nat.reduceAdd,Nat.reduceSub,List.take_succ_cons,List.take_zero,List.drop_succ_cons,List.drop_zero];(repeat (go_big_quiet_step ((first | (go_at_call 205;with_reducible exact Gives.inRegion (K3.out _)) | (go_at_call 205;with_reducible exact Gives.inRegion (K4.out _)) | (go_at_call 204;with_reducible exact Gives.inRegion (g_minus _ _ (by omega) (by omega) (by omega) (by omega) _))))));refine wpQuiet_nil ?_;intro _ hw';obtain ⟨_,hw''⟩:=hw';subst hw'')
   go_wp2
   rw [HS.out]
   (refine forgetW (fun WF=>Up w WF∧Box WF (w.heap.size+1+1+1) #[.int .i64 ((-u2,-u1,-v2,-v1):Ar).1,.int .i64 ((-u2,-u1,-v2,-v1):Ar).2.1,.int .i64 ((-u2,-u1,-v2,-v1):Ar).2.2.1,.int .i64 ((-u2,-u1,-v2,-v1):Ar).2.2.2] 61) ⟨Up.go,Box.go⟩ ?_;rintro WF ⟨huF,hbF⟩;have zF0:=hbF.cell 0 rfl;have zF1:=hbF.cell 1 rfl;have zF2:=hbF.cell 2 rfl;have zF3:=hbF.cell 3 rfl;(refine bodyPost_give huF rfl ⟨_,(by simp [results,Tryz.results184,go_sem,zF0,zF1,zF2,zF3];rfl),?_⟩);rfl)
 · rw [if_neg he]
   have heb:(askedE bs home l h g t (x0,x1,y0,y1) != 0)=true:=by simp [he]
   generalize askedE bs home l h g t (x0,x1,y0,y1)=e at *
   clear hl he
   (unfold Gives;go_enter Tryz.func184,Tryz.ntmps184)
   go_wp2_with (go_at_call 183;refine (HA.out _ Up.go).mono ?_;intro _)
   (refine forgetW (fun WF=>Up w WF∧Box WF (w.heap.size+1+1+1) #[.int .i64 zA.1,.int .i64 zA.2.1,.int .i64 zA.2.2.1,.int .i64 zA.2.2.2] 61) ⟨Up.go,Box.go⟩ ?_;rintro WF ⟨huF,hbF⟩;have zF0:=hbF.cell 0 rfl;have zF1:=hbF.cell 1 rfl;have zF2:=hbF.cell 2 rfl;have zF3:=hbF.cell 3 rfl;(refine bodyPost_give huF rfl ⟨_,(by simp [results,Tryz.results184,go_sem,zF0,zF1,zF2,zF3];rfl),?_⟩);rfl)
theorem g_Heat {K:Nat→Prop} {w:World} {a:Option Addr} {n c:Nat} {bs:List Bod} {home:Int} (hl:Bods K w (.slice a n c) bs) (hh:I64 home) (l h:Sp) (g t:Int) (x:Ar) :
 Gives Tryz.prog 185 #[.agg #[.slice a n c,.int .i64 home],.agg #[.int .i64 l.1,.int .i64 l.2,.int .i64 h.1,.int .i64 h.2,.int .i64 g],.int .i64 t,.agg #[.int .i64 x.1,.int .i64 x.2.1,.int .i64 x.2.2.1,.int .i64 x.2.2.2]] w (.tuple #[.agg #[.int .i64 ((heatV bs home l h g t x).1).1,.int .i64 ((heatV bs home l h g t x).1).2.1,.int .i64 ((heatV bs home l h g t x).1).2.2.1,.int .i64 ((heatV bs home l h g t x).1).2.2.2],.int .i64 (heatV bs home l h g t x).2]):=by
 obtain ⟨x0,x1,y0,y1⟩:=x
 have HA:=hide (fun W (hu:Up w W)=>g_asked (hl.keeps (hu.keeps K)) hh l h g t x0 x1 y0 y1)
 unfold heatV
 by_cases he:askedE bs home l h g t (x0,x1,y0,y1)=0
 · rw [if_pos he]
   obtain ⟨h1,_,⟨h2,h3⟩,_⟩:=asked_zero he
   rw [he] at HA
   have hi:0<bs.length:=List.length_pos_iff.2 (worldE_zero h1).1
   have K1:=hide (fun W (hu:Up w W)=>g_one (hl.keeps (hu.keeps K)) hh h1 (i:=0) (b:=bs[0]) (List.getElem?_eq_getElem hi) h2 h3 x0 x1 y0 y1)
   rw [show bs.getD 0 ⟨0,0,[]⟩=bs[0] by simp [List.getD,List.getElem?_eq_getElem hi]]
   generalize pullB t (x0,x1,y0,y1) bs[0]=R at *
   obtain ⟨R1,R2,R3,R4⟩:=R
   obtain ⟨k1,k2⟩:=h
   have K3:=hide (fun W=>g_thousandth k1 k2 R3 R4 W)
   have K4:=hide (fun W=>g_thousandth k1 k2 R1 R2 W)
   have b1:=part_bd (k1,k2) (R3,R4)
   obtain ⟨u1,u2,hu⟩:∃ u1 u2,partP (k1,k2) (R3,R4)=(u1,u2):=⟨_,_,rfl⟩
   obtain ⟨v1,v2,hv⟩:∃ v1 v2,partP (k1,k2) (R1,R2)=(v1,v2):=⟨_,_,rfl⟩
   rw [hu] at K3 b1
   rw [hv] at K4
   simp only at b1 K3 K4
   have HS:=hide (show heatP (k1,k2) (R1,R2,R3,R4)=(-u2,-u1,v1,v2) by unfold heatP arX arY;simp only;rw [hu,hv];rfl)
   clear hl he h1 hi hu hv
   dsimp only at HA
   (unfold Gives;go_enter Tryz.func185,Tryz.ntmps185)
   go_wp2_with (first|(go_at_call 183;refine (HA.out _ Up.go).mono ?_;intro _)|(go_at_call 186;refine (K1.out _ Up.go).mono ?_;intro _))
   ((first | with_reducible refine wp_region_ext_tail2 2 (by kernel_rfl) (by kernel_rfl) ?_ | refine wp_region_ext_tail 2 (by kernel_rfl) (by kernel_rfl) ?_);simp only [List.length_cons,List.length_nil,Nat.reduceAdd,Nat.reduceSub,List.take_succ_cons,List.take_zero,List.drop_succ_cons,List.drop_zero];(repeat (go_big_quiet_step ((first | (go_at_call 205;with_reducible exact Gives.inRegion (K3.out _)) | (go_at_call 205;with_reducible exact Gives.inRegion (K4.out _)) | (go_at_call 204;with_reducible exact Gives.inRegion (g_minus _ _ (by omega) (by omega) (by omega) (by omega) _))))));refine wpQuiet_nil ?_;intro _ hw';obtain ⟨_,hw''⟩:=hw';subst hw'')
   go_wp2
   rw [HS.out]
   (refine forgetW (fun WF=>Up w WF∧Box WF (w.heap.size+1+1+1) #[.int .i64 ((-u2,-u1,v1,v2):Ar).1,.int .i64 ((-u2,-u1,v1,v2):Ar).2.1,.int .i64 ((-u2,-u1,v1,v2):Ar).2.2.1,.int .i64 ((-u2,-u1,v1,v2):Ar).2.2.2] 61) ⟨Up.go,Box.go⟩ ?_;rintro WF ⟨huF,hbF⟩;have zF0:=hbF.cell 0 rfl;have zF1:=hbF.cell 1 rfl;have zF2:=hbF.cell 2 rfl;have zF3:=hbF.cell 3 rfl;(refine bodyPost_give huF rfl ⟨_,(by simp [results,Tryz.results185,go_sem,zF0,zF1,zF2,zF3];rfl),?_⟩);rfl)
 · rw [if_neg he]
   have heb:(askedE bs home l h g t (x0,x1,y0,y1) != 0)=true:=by simp [he]
   generalize askedE bs home l h g t (x0,x1,y0,y1)=e at *
   clear hl he
   (unfold Gives;go_enter Tryz.func185,Tryz.ntmps185)
   go_wp2_with (go_at_call 183;refine (HA.out _ Up.go).mono ?_;intro _)
   (refine forgetW (fun WF=>Up w WF∧Box WF (w.heap.size+1+1+1) #[.int .i64 zA.1,.int .i64 zA.2.1,.int .i64 zA.2.2.1,.int .i64 zA.2.2.2] 61) ⟨Up.go,Box.go⟩ ?_;rintro WF ⟨huF,hbF⟩;have zF0:=hbF.cell 0 rfl;have zF1:=hbF.cell 1 rfl;have zF2:=hbF.cell 2 rfl;have zF3:=hbF.cell 3 rfl;(refine bodyPost_give huF rfl ⟨_,(by simp [results,Tryz.results185,go_sem,zF0,zF1,zF2,zF3];rfl),?_⟩);rfl)
end Go.Proofs.YteafglginnonnaaGreat
