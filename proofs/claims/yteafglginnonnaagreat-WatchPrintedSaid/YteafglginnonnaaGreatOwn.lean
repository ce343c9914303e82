/- Several texts in one. -/
import Derived.Test.YteafglginnonnaaGreatMade
import Derived.Test.YteafglginnonnaaGreatSpanB
import Derived.Test.YteafglginnonnaaGreatSight
import Derived.Test.YteafglginnonnaaGreatSkyB
import Derived.Test.YteafglginnonnaaGreatStore
import Derived.Test.YteafglginnonnaaGreatSkyR
import Derived.Test.YteafglginnonnaaGreatRingF
/- Drifts, boxes, states made of numbers. Conditions: how often the ring was asked. -/
set_option linter.unusedVariables false
set_option linter.unusedSimpArgs false
namespace Go.Proofs.YteafglginnonnaaGreat
set_option maxHeartbeats 20000000
set_option maxRecDepth 100000
open Go.RowKit Go.Shelf
structure MkS (W:World) (B:Nat) (n:Int) (b0 b1:Nat) (c0 c1:Array Value) (T:TypeId) (U:World):Prop where
 r:RingAt W B n U
 a:Box U b0 c0 T
 b:Box U b1 c1 T
theorem MkS.grown {W:World} {B:Nat} {n m:Int} {b0 b1:Nat} {c0 c1:Array Value} {T:TypeId} {U U':World} (h:MkS W B n b0 b1 c0 c1 T U) (hr:RingAt W B m U') (hg:U.grownBy U' (some B)) (n0:b0≠B) (n1:b1≠B):MkS W B m b0 b1 c0 c1 T U' :=
 ⟨hr,h.a.grown hg (by simp;omega),h.b.grown hg (by simp;omega)⟩
theorem MkS.drew {W:World} {B:Nat} {n:Int} {b0 b1:Nat} {c0 c1:Array Value} {T:TypeId} {U:World} (h:MkS W B n b0 b1 c0 c1 T U):MkS W B n b0 b1 c0 c1 T U.drew:=⟨h.r.drew,h.a.drew,h.b.drew⟩
theorem MkS.ext {W:World} {B:Nat} {n:Int} {b0 b1:Nat} {c0 c1:Array Value} {T:TypeId} {U:World} (h:MkS W B n b0 b1 c0 c1 T U) (p:Ext):MkS W B n b0 b1 c0 c1 T (Go.Proofs.YteafglginnonnaaGreat.ext U p):=⟨h.r.ext p,h.a.ext p,h.b.ext p⟩
theorem MkS.setb {W:World} {B:Nat} {n:Int} {b0 b1:Nat} {c0 c1:Array Value} {T:TypeId} {U:World} (h:MkS W B n b0 b1 c0 c1 T U) (h1:W.heap.size≤b1) (hne:b0≠b1) (i:Nat) (v:Value):MkS W B n b0 b1 c0 (c1.setIfInBounds i v) T (U.setCell ⟨b1,i,none⟩ v) :=
 ⟨h.r.set h1 i v,h.a.other hne i v,h.b.set i v⟩
theorem MkS.seta {W:World} {B:Nat} {n:Int} {b0 b1:Nat} {c0 c1:Array Value} {T:TypeId} {U:World} (h:MkS W B n b0 b1 c0 c1 T U) (h0:W.heap.size≤b0) (hne:b1≠b0) (i:Nat) (v:Value):MkS W B n b0 b1 (c0.setIfInBounds i v) c1 T (U.setCell ⟨b0,i,none⟩ v) :=
 ⟨h.r.set h0 i v,h.a.set i v,h.b.other hne i v⟩
def RGas (v:Value):Prop:=∃ l1 l2 h1 h2 g:Int,(0≤l1∧l1≤l2∧l2≤4)∧(-3≤h1∧h1≤h2∧h2≤3)∧(0≤g∧g≤2)∧v=.agg #[.int .i64 (l1),.int .i64 (l2),.int .i64 (h1),.int .i64 (h2),.int .i64 (g)]
theorem gasof_r {w:World} {sl:Value} (hN:Nums w sl) {B:Nat} (hB:w.heap.size≤B) :
 RingGives 37 #[.pointer (some ⟨B,0,none⟩)] w sl B 5 RGas:=fun t W hu hb t0 t1=>by
 have KN:=hide (fun (m:Int) (m0:1≤m) (m1:m≤9223372036854775807) n V (hV:RingAt W B n V) (hn:n+1≤100000)=>(next_r hN hB m0 m1).at hu hb hB hV hn)
 have HR:=hide (RingAt.start (n:=t) hb t0 (by omega))
 have lB:=hb.lt
 clear hN hB hu hb
 obtain ⟨b0,hb0⟩:∃ b,b=W.heap.size:=⟨_,rfl⟩
 obtain ⟨b1,hb1⟩:∃ b,b=W.heap.size+1:=⟨_,rfl⟩
 go_enter Tryz.func37,Tryz.ntmps37
 go_wp2_with fail
 go_at_call 34
 rw [← hb1,← hb0]
 refine forgetC (fun U=>MkS W B t b0 b1 #[.int .i64 (0),.int .i64 (0),.int .i64 (0),.int .i64 (0),.int .i64 (0)] #[.int .i64 (0),.int .i64 (0),.int .i64 (0),.int .i64 (0),.int .i64 (0)] 33 U) ⟨(HR.out.alloc _).alloc _,by rw [hb0];exact Box.go,by rw [hb1];exact Box.go⟩ ?_
 have N0:b0≠B:=by omega
 have N1:b1≠B:=by omega
 have N01:b0≠b1:=by omega
 have N10:b1≠b0:=by omega
 have W0:W.heap.size≤b0:=by omega
 have W1:W.heap.size≤b1:=by omega
 clear hb0 hb1 HR
 intro V0 h0
 have H0:=hide h0
 clear h0
 refine (KN.out 3 (by omega) (by omega) (t) _ H0.out.r (by omega)).mono ?_
 rintro _ V1 ⟨_,rfl,⟨l,l0,l1,rfl⟩,hR,hg⟩
 have H1:=hide (H0.out.grown hR hg N0 N1)
 clear hR hg
 clear H0
 obtain ⟨q0,q1,q2,q3,q4⟩:=(H1.out.b).c5
 have lq:=(H1.out.b).lt
 obtain ⟨fzq0,fzq1,fzq2,fzq3,fzq4⟩:=(H1.out.b).f5
 go_wp2_with fail
 refine forgetW (fun U=>MkS W B (t+1) b0 b1 #[.int .i64 (0),.int .i64 (0),.int .i64 (0),.int .i64 (0),.int .i64 (0)] #[.int .i64 (l),.int .i64 (0),.int .i64 (0),.int .i64 (0),.int .i64 (0)] 33 U) (H1.out.setb W1 N01 0 (.int .i64 l)) ?_
 clear H1 q0 q1 q2 q3 q4 lq fzq0 fzq1 fzq2 fzq3 fzq4
 intro V2 h0
 have H2:=hide h0
 clear h0
 go_wp2_with fail
 have hS0:=hide (show Box V2.drew b1 #[.int .i64 (l),.int .i64 (0),.int .i64 (0),.int .i64 (0),.int .i64 (0)] 33 from H2.out.b.drew)
 refine wp_region_L (fun W'=>Box W' b1 #[.int .i64 (l),.int .i64 (0),.int .i64 (0),.int .i64 (0),.int .i64 (0)] 33) 8 (by kernel_rfl) ?_
 refine anyL_take 0 (v:=(.pointer (some ⟨b1,0,none⟩))) rfl (by kernel_rfl) (fun _ _ _ h=>h) (.inl ⟨rfl,fun W' hW'=>by simp [go_sem]⟩) hS0.out ?_
 simp only [Act.put,List.setIfInBounds_toArray,List.set_cons_zero,List.set_cons_succ]
 refine anyL_take 1 (v:=(.pointer (some ⟨b1,0,none⟩))) rfl (by kernel_rfl) (fun _ _ _ h=>h) (.inl ⟨rfl,fun W' hW'=>by simp [go_sem]⟩) hS0.out ?_
 simp only [Act.put,List.setIfInBounds_toArray,List.set_cons_zero,List.set_cons_succ]
 refine anyL_take 2 (v:=(.int .i64 l)) rfl (by kernel_rfl) (fun _ _ _ h=>h) (.inl ⟨rfl,fun W' hW'=>by have e:=Box.cell hW' 0 rfl;simp [go_sem,e]⟩) hS0.out ?_
 simp only [Act.put,List.setIfInBounds_toArray,List.set_cons_zero,List.set_cons_succ]
 refine anyL_take 3 (v:=(.pointer (some ⟨B,0,none⟩))) rfl (by kernel_rfl) (fun _ _ _ h=>h) (.inl ⟨rfl,fun W' hW'=>by simp [go_sem]⟩) hS0.out ?_
 simp only [Act.put,List.setIfInBounds_toArray,List.set_cons_zero,List.set_cons_succ]
 refine anyL_one (i:=4) (by kernel_rfl) rfl (fun K HK=>?_)
 go_wp2_with fail
 go_at_call 34
 refine (KN.out 3 (by omega) (by omega) (t+1) _ H2.out.drew.r (by omega)).mono ?_
 rintro _ V3 ⟨_,rfl,⟨l',l'0,l'1,rfl⟩,hR,hg⟩
 have H3:=hide (H2.out.drew.grown hR hg N0 N1)
 clear hR hg
 clear H2 hS0
 go_wp2_with fail
 refine HK.out _ _ (fun _=>H3.out.b) ?_
 clear HK
 refine anyL_one (i:=5) (by kernel_rfl) rfl (fun K HK=>?_)
 go_wp2_with fail
 refine HK.out _ _ (fun _=>H3.out.b) ?_
 clear HK
 refine anyL_one (i:=6) (by kernel_rfl) rfl (fun K HK=>?_)
 go_wp2_with fail
 refine HK.out _ _ (fun _=>H3.out.b) ?_
 clear HK
 refine anyL_one (i:=7) (by kernel_rfl) rfl (fun K HK=>?_)
 go_wp2_with fail
 refine HK.out _ _ (fun _=>H3.out.b) ?_
 clear HK
 obtain ⟨q0,q1,q2,q3,q4⟩:=(H3.out.b).c5
 have lq:=(H3.out.b).lt
 obtain ⟨fzq0,fzq1,fzq2,fzq3,fzq4⟩:=(H3.out.b).f5
 refine anyL_one (i:=8) (by kernel_rfl) rfl (fun K HK=>?_)
 go_wp2_with fail
 refine HK.out _ _ (fun h=>(h rfl).elim) ?_
 clear HK
 refine anyL_done (by kernel_rfl) ?_
 go_wp2_with fail
 go_at_call 34
 refine forgetC (fun U=>MkS W B (t+1+1) b0 b1 #[.int .i64 (0),.int .i64 (0),.int .i64 (0),.int .i64 (0),.int .i64 (0)] #[.int .i64 (l),.int .i64 (l+l'),.int .i64 (0),.int .i64 (0),.int .i64 (0)] 33 U) (H3.out.setb W1 N01 1 (.int .i64 (l+l'))) ?_
 clear H3 q0 q1 q2 q3 q4 lq fzq0 fzq1 fzq2 fzq3 fzq4
 intro V4 h0
 have H4:=hide h0
 clear h0
 refine (KN.out 5 (by omega) (by omega) (t+1+1) _ H4.out.r (by omega)).mono ?_
 rintro _ V5 ⟨_,rfl,⟨h,h0,h1,rfl⟩,hR,hg⟩
 have H5:=hide (H4.out.grown hR hg N0 N1)
 clear hR hg
 clear H4
 obtain ⟨q0,q1,q2,q3,q4⟩:=(H5.out.b).c5
 have lq:=(H5.out.b).lt
 obtain ⟨fzq0,fzq1,fzq2,fzq3,fzq4⟩:=(H5.out.b).f5
 go_wp2_with fail
 refine forgetW (fun U=>MkS W B (t+1+1+1) b0 b1 #[.int .i64 (0),.int .i64 (0),.int .i64 (0),.int .i64 (0),.int .i64 (0)] #[.int .i64 (l),.int .i64 (l+l'),.int .i64 (h - 3),.int .i64 (0),.int .i64 (0)] 33 U) (H5.out.setb W1 N01 2 (.int .i64 (h - 3))) ?_
 clear H5 q0 q1 q2 q3 q4 lq fzq0 fzq1 fzq2 fzq3 fzq4
 intro V6 h0
 have H6:=hide h0
 clear h0
 go_wp2_with fail
 have hS0:=hide (show Box V6.drew b1 #[.int .i64 (l),.int .i64 (l+l'),.int .i64 (h - 3),.int .i64 (0),.int .i64 (0)] 33 from H6.out.b.drew)
 refine wp_region_L (fun W'=>Box W' b1 #[.int .i64 (l),.int .i64 (l+l'),.int .i64 (h - 3),.int .i64 (0),.int .i64 (0)] 33) 8 (by kernel_rfl) ?_
 refine anyL_take 0 (v:=(.pointer (some ⟨b1,2,none⟩))) rfl (by kernel_rfl) (fun _ _ _ h=>h) (.inl ⟨rfl,fun W' hW'=>by simp [go_sem]⟩) hS0.out ?_
 simp only [Act.put,List.setIfInBounds_toArray,List.set_cons_zero,List.set_cons_succ]
 refine anyL_take 1 (v:=(.pointer (some ⟨b1,2,none⟩))) rfl (by kernel_rfl) (fun _ _ _ h=>h) (.inl ⟨rfl,fun W' hW'=>by simp [go_sem]⟩) hS0.out ?_
 simp only [Act.put,List.setIfInBounds_toArray,List.set_cons_zero,List.set_cons_succ]
 refine anyL_take 2 (v:=(.int .i64 (h - 3))) rfl (by kernel_rfl) (fun _ _ _ h=>h) (.inl ⟨rfl,fun W' hW'=>by have e:=Box.cell hW' 2 rfl;simp [go_sem,e]⟩) hS0.out ?_
 simp only [Act.put,List.setIfInBounds_toArray,List.set_cons_zero,List.set_cons_succ]
 refine anyL_take 3 (v:=(.pointer (some ⟨B,0,none⟩))) rfl (by kernel_rfl) (fun _ _ _ h=>h) (.inl ⟨rfl,fun W' hW'=>by simp [go_sem]⟩) hS0.out ?_
 simp only [Act.put,List.setIfInBounds_toArray,List.set_cons_zero,List.set_cons_succ]
 refine anyL_one (i:=4) (by kernel_rfl) rfl (fun K HK=>?_)
 go_wp2_with fail
 go_at_call 34
 refine (KN.out 3 (by omega) (by omega) (t+1+1+1) _ H6.out.drew.r (by omega)).mono ?_
 rintro _ V7 ⟨_,rfl,⟨h',h'0,h'1,rfl⟩,hR,hg⟩
 have H7:=hide (H6.out.drew.grown hR hg N0 N1)
 clear hR hg
 clear H6 hS0
 go_wp2_with fail
 refine HK.out _ _ (fun _=>H7.out.b) ?_
 clear HK
 refine anyL_one (i:=5) (by kernel_rfl) rfl (fun K HK=>?_)
 go_wp2_with fail
 refine HK.out _ _ (fun _=>H7.out.b) ?_
 clear HK
 refine anyL_one (i:=6) (by kernel_rfl) rfl (fun K HK=>?_)
 go_wp2_with fail
 refine HK.out _ _ (fun _=>H7.out.b) ?_
 clear HK
 refine anyL_one (i:=7) (by kernel_rfl) rfl (fun K HK=>?_)
 go_wp2_with fail
 refine HK.out _ _ (fun _=>H7.out.b) ?_
 clear HK
 obtain ⟨q0,q1,q2,q3,q4⟩:=(H7.out.b).c5
 have lq:=(H7.out.b).lt
 obtain ⟨fzq0,fzq1,fzq2,fzq3,fzq4⟩:=(H7.out.b).f5
 refine anyL_one (i:=8) (by kernel_rfl) rfl (fun K HK=>?_)
 go_wp2_with fail
 refine HK.out _ _ (fun h=>(h rfl).elim) ?_
 clear HK
 refine anyL_done (by kernel_rfl) ?_
 go_wp2_with fail
 go_at_call 34
 refine forgetC (fun U=>MkS W B (t+1+1+1+1) b0 b1 #[.int .i64 (0),.int .i64 (0),.int .i64 (0),.int .i64 (0),.int .i64 (0)] #[.int .i64 (l),.int .i64 (l+l'),.int .i64 (h - 3),.int .i64 (h - 3+h'),.int .i64 (0)] 33 U) (H7.out.setb W1 N01 3 (.int .i64 (h - 3+h'))) ?_
 clear H7 q0 q1 q2 q3 q4 lq fzq0 fzq1 fzq2 fzq3 fzq4
 intro V8 h0
 have H8:=hide h0
 clear h0
 refine (KN.out 3 (by omega) (by omega) (t+1+1+1+1) _ H8.out.r (by omega)).mono ?_
 rintro _ V9 ⟨_,rfl,⟨g,g0,g1,rfl⟩,hR,hg⟩
 have H9:=hide (H8.out.grown hR hg N0 N1)
 clear hR hg
 clear H8
 obtain ⟨q0,q1,q2,q3,q4⟩:=(H9.out.b).c5
 have lq:=(H9.out.b).lt
 obtain ⟨fzq0,fzq1,fzq2,fzq3,fzq4⟩:=(H9.out.b).f5
 obtain ⟨z0,z1,z2,z3,z4⟩:=(H9.out.a).c5
 have lz:=(H9.out.a).lt
 obtain ⟨fzz0,fzz1,fzz2,fzz3,fzz4⟩:=(H9.out.a).f5
 go_wp2_with fail
 refine forgetW (fun U=>MkS W B (t+1+1+1+1+1) b0 b1 #[.int .i64 (l),.int .i64 ((l+l')),.int .i64 ((h - 3)),.int .i64 ((h - 3+h')),.int .i64 (g)] #[.int .i64 (l),.int .i64 ((l+l')),.int .i64 ((h - 3)),.int .i64 ((h - 3+h')),.int .i64 (g)] 33 U) ?_ ?_
 · have z:=((((((H9.out.setb W1 N01 4 (.int .i64 g)).seta W0 N10 0 (.int .i64 l)).seta W0 N10 1 (.int .i64 (l+l'))).seta W0 N10 2 (.int .i64 (h - 3))).seta W0 N10 3 (.int .i64 (h - 3+h'))).seta W0 N10 4 (.int .i64 g))
   exact z
 clear H9 q0 q1 q2 q3 q4 lq fzq0 fzq1 fzq2 fzq3 fzq4 z0 z1 z2 z3 z4 lz fzz0 fzz1 fzz2 fzz3 fzz4
 intro U h0
 obtain ⟨c0,c1,c2,c3,c4⟩:=h0.a.c5
 exact bodyPost_ret (v:=.agg #[.int .i64 (l),.int .i64 ((l+l')),.int .i64 ((h - 3)),.int .i64 ((h - 3+h')),.int .i64 (g)]) (by simp [results,Tryz.results37,go_sem,c0,c1,c2,c3,c4]) rfl (ring_at_out (n:=t+1+1+1+1+1) h0.r (by omega) ⟨_,_,_,_,_,by omega,by omega,by omega,rfl⟩)
abbrev boxA (b:BoxD):Array Value:=#[.int .i64 (b.x0),.int .i64 (b.x1),.int .i64 (b.y0),.int .i64 (b.y1),.int .i64 (b.u0),.int .i64 (b.u1),.int .i64 (b.v0),.int .i64 (b.v1)]
def RBox (_:World) (b:BoxD) (vs:List Value):Prop:=vs=[.int .i64 b.x0,.int .i64 b.x1,.int .i64 b.y0,.int .i64 b.y1,.int .i64 b.u0,.int .i64 b.u1,.int .i64 b.v0,.int .i64 b.v1]
abbrev Boxes (K:Nat→Prop):=Lies K 8 RBox
theorem Boxes.keeps {K:Nat→Prop} {w w':World} {v:Value} {l:List BoxD} (h:Boxes K w v l) (hk:Keeps K w w'):Boxes K w' v l:=Lies.keeps h hk fun _ _ h=>h
theorem Boxes.mono {K K':Nat→Prop} {w:World} {v:Value} {l:List BoxD} (h:Boxes K w v l) (hK:∀ b,b<w.heap.size→K b→K' b):Boxes K' w v l:=Lies.mono h hK fun _ _ h=>h
theorem Boxes.at {K:Nat→Prop} {w:World} {a:Option Addr} {n c:Nat} {l:List BoxD} (h:Boxes K w (.slice a n c) l):n=l.length∧n≤9223372036854775807 ∧
 ∀ i,i<n→∃ b o p,a=some ⟨b,o,none⟩∧K b∧b<w.heap.size∧l[i]?=some p∧w.cell? ⟨b,o+i*8,none⟩=some (.int .i64 p.x0)∧w.cell? ⟨b,o+i*8+1,none⟩=some (.int .i64 p.x1)∧w.cell? ⟨b,o+i*8+2,none⟩=some (.int .i64 p.y0)∧w.cell? ⟨b,o+i*8+3,none⟩=some (.int .i64 p.y1) ∧
  w.cell? ⟨b,o+i*8+4,none⟩=some (.int .i64 p.u0)∧w.cell? ⟨b,o+i*8+5,none⟩=some (.int .i64 p.u1)∧w.cell? ⟨b,o+i*8+6,none⟩=some (.int .i64 p.v0)∧w.cell? ⟨b,o+i*8+7,none⟩=some (.int .i64 p.v1):=by
 obtain ⟨a',c',h1,h2,h3⟩:=h
 simp at h1
 obtain ⟨rfl,rfl,rfl⟩:=h1
 refine ⟨rfl,h2,fun i hi=>?_⟩
 obtain ⟨b,o,rfl,hK,hb,hc⟩:=h3 (by intro e;subst e;simp at hi)
 obtain ⟨vs,rfl,_,hx⟩:=hc i l[i] (List.getElem?_eq_getElem hi)
 exact ⟨b,o,l[i],rfl,hK,hb,List.getElem?_eq_getElem hi,hx 0 _ rfl,hx 1 _ rfl,hx 2 _ rfl,hx 3 _ rfl,hx 4 _ rfl,hx 5 _ rfl,hx 6 _ rfl,hx 7 _ rfl⟩
theorem owithin_any (n lo hi:Int) (w:World):Gives Tryz.prog 66 #[.int .i64 n,.int .i64 lo,.int .i64 hi] w (.bool (withinB n lo hi)):=by
 unfold withinB
 (unfold Gives;go_enter Tryz.func66,Tryz.ntmps66)
 go_wp2
 all_goals (go_ret;refine ⟨?_,Up.go⟩)
 all_goals (go_light;first|(simp_all [withinB];done)|(simp_all [withinB];omega)|(simp_all [withinB];repeat' split;all_goals (first|(simp_all;done)|omega|(simp_all;omega))))
theorem ostate_any (x y u v:Int) (w:World):Gives Tryz.prog 67 #[.agg #[.int .i64 (x),.int .i64 (y),.int .i64 (u),.int .i64 (v)]] w (.int .i64 (stateE x y u v)):=by
 have H1:=hide (fun W=>owithin_any x (-33554432) 33554432 W)
 have H2:=hide (fun W=>owithin_any y (-33554432) 33554432 W)
 have H3:=hide (fun W=>owithin_any u (-1048576) 1048576 W)
 have H4:=hide (fun W=>owithin_any v (-1048576) 1048576 W)
 unfold stateE
 generalize withinB x (-33554432) 33554432=A at *
 generalize withinB y (-33554432) 33554432=B at *
 generalize withinB u (-1048576) 1048576=C at *
 generalize withinB v (-1048576) 1048576=D at *
 cases A
 · (unfold Gives;go_enter Tryz.func67,Tryz.ntmps67)
   go_wp2_with (first|(go_at_call 66;(with_reducible refine (H1.out _).mono ?_);intro _)|(go_at_call 66;(with_reducible refine (H2.out _).mono ?_);intro _)|(go_at_call 66;(with_reducible refine (H3.out _).mono ?_);intro _)|(go_at_call 66;(with_reducible refine (H4.out _).mono ?_);intro _))
   go_ret
   exact ⟨rfl,Up.go⟩
 cases B
 · (unfold Gives;go_enter Tryz.func67,Tryz.ntmps67)
   go_wp2_with (first|(go_at_call 66;(with_reducible refine (H1.out _).mono ?_);intro _)|(go_at_call 66;(with_reducible refine (H2.out _).mono ?_);intro _)|(go_at_call 66;(with_reducible refine (H3.out _).mono ?_);intro _)|(go_at_call 66;(with_reducible refine (H4.out _).mono ?_);intro _))
   go_ret
   exact ⟨rfl,Up.go⟩
 cases C
 · (unfold Gives;go_enter Tryz.func67,Tryz.ntmps67)
   go_wp2_with (first|(go_at_call 66;(with_reducible refine (H1.out _).mono ?_);intro _)|(go_at_call 66;(with_reducible refine (H2.out _).mono ?_);intro _)|(go_at_call 66;(with_reducible refine (H3.out _).mono ?_);intro _)|(go_at_call 66;(with_reducible refine (H4.out _).mono ?_);intro _))
   go_ret
   exact ⟨rfl,Up.go⟩
 cases D
 · (unfold Gives;go_enter Tryz.func67,Tryz.ntmps67)
   go_wp2_with (first|(go_at_call 66;(with_reducible refine (H1.out _).mono ?_);intro _)|(go_at_call 66;(with_reducible refine (H2.out _).mono ?_);intro _)|(go_at_call 66;(with_reducible refine (H3.out _).mono ?_);intro _)|(go_at_call 66;(with_reducible refine (H4.out _).mono ?_);intro _))
   go_ret
   exact ⟨rfl,Up.go⟩
 · (unfold Gives;go_enter Tryz.func67,Tryz.ntmps67)
   go_wp2_with (first|(go_at_call 66;(with_reducible refine (H1.out _).mono ?_);intro _)|(go_at_call 66;(with_reducible refine (H2.out _).mono ?_);intro _)|(go_at_call 66;(with_reducible refine (H3.out _).mono ?_);intro _)|(go_at_call 66;(with_reducible refine (H4.out _).mono ?_);intro _))
   go_ret
   exact ⟨rfl,Up.go⟩
theorem oof_any (x0 x1 y0 y1 u0 u1 v0 v1:Int) (w:World):Gives Tryz.prog 75 #[.agg #[.int .i64 (x0),.int .i64 (x1),.int .i64 (y0),.int .i64 (y1),.int .i64 (u0),.int .i64 (u1),.int .i64 (v0),.int .i64 (v1)]] w (.agg #[.int .i64 (x0),.int .i64 (x1),.int .i64 (y0),.int .i64 (y1),.int .i64 (u0),.int .i64 (u1),.int .i64 (v0),.int .i64 (v1)]):=by
 (unfold Gives;go_enter Tryz.func75,Tryz.ntmps75)
 go_wp2
 all_goals (refine bodyPost_give Up.go rfl ⟨_,(by simp [results,Tryz.results75,go_sem];rfl),?_⟩)
 all_goals rfl
@[go_sem] theorem index_spans0 (x0 x1 y0 y1 u0 u1 v0 v1:Int) (w:World):(Instr.index 149 (.agg #[.int .i64 (x0),.int .i64 (x1),.int .i64 (y0),.int .i64 (y1),.int .i64 (u0),.int .i64 (u1),.int .i64 (v0),.int .i64 (v1)]) (.int .i64 0)).run Tryz.prog w=.ok (.agg #[.int .i64 (x0),.int .i64 (x1)]) w:=by kernel_rfl
@[go_sem] theorem index_spans1 (x0 x1 y0 y1 u0 u1 v0 v1:Int) (w:World):(Instr.index 149 (.agg #[.int .i64 (x0),.int .i64 (x1),.int .i64 (y0),.int .i64 (y1),.int .i64 (u0),.int .i64 (u1),.int .i64 (v0),.int .i64 (v1)]) (.int .i64 1)).run Tryz.prog w=.ok (.agg #[.int .i64 (y0),.int .i64 (y1)]) w:=by kernel_rfl
@[go_sem] theorem index_spans2 (x0 x1 y0 y1 u0 u1 v0 v1:Int) (w:World):(Instr.index 149 (.agg #[.int .i64 (x0),.int .i64 (x1),.int .i64 (y0),.int .i64 (y1),.int .i64 (u0),.int .i64 (u1),.int .i64 (v0),.int .i64 (v1)]) (.int .i64 2)).run Tryz.prog w=.ok (.agg #[.int .i64 (u0),.int .i64 (u1)]) w:=by kernel_rfl
@[go_sem] theorem index_spans3 (x0 x1 y0 y1 u0 u1 v0 v1:Int) (w:World):(Instr.index 149 (.agg #[.int .i64 (x0),.int .i64 (x1),.int .i64 (y0),.int .i64 (y1),.int .i64 (u0),.int .i64 (u1),.int .i64 (v0),.int .i64 (v1)]) (.int .i64 3)).run Tryz.prog w=.ok (.agg #[.int .i64 (v0),.int .i64 (v1)]) w:=by kernel_rfl
theorem oadd_any {a b c d:Int} (h1:-4000000000000000000≤a∧a≤4000000000000000000) (h2:-4000000000000000000≤b∧b≤4000000000000000000) (h3:-4000000000000000000≤c∧c≤4000000000000000000) (h4:-4000000000000000000≤d∧d≤4000000000000000000) (w:World):Gives Tryz.prog 171 #[.agg #[.int .i64 (a),.int .i64 (b)],.agg #[.int .i64 (c),.int .i64 (d)]] w (.agg #[.int .i64 ((a+c)),.int .i64 ((b+d))]):=by
 (unfold Gives;go_enter Tryz.func171,Tryz.ntmps171)
 go_wp2
 all_goals (refine bodyPost_give Up.go rfl ⟨_,(by simp [results,Tryz.results171,go_sem];rfl),?_⟩)
 all_goals rfl
theorem obox_any (b:BoxD) (w:World):Gives Tryz.prog 170 #[.agg (boxA b)] w (.int .i64 (boxE b)):=by
 obtain ⟨x0,x1,y0,y1,u0,u1,v0,v1⟩:=b
 have HO:=hide (fun W=>oof_any x0 x1 y0 y1 u0 u1 v0 v1 W)
 have HL:=hide (fun W=>ostate_any x0 y0 u0 v0 W)
 have HH:=hide (fun W=>ostate_any x1 y1 u1 v1 W)
 have s1:=stateE_two x0 y0 u0 v0
 have s2:=stateE_two x1 y1 u1 v1
 unfold boxE fullB boxA
 dsimp only
 generalize stateE x0 y0 u0 v0=L at *
 generalize stateE x1 y1 u1 v1=M at *
 by_cases h1:x0≤x1
 rotate_left
 · have d1:decide (x1<x0)=true:=decide_eq_true (by omega)
   rw [decide_eq_false h1,Bool.false_and,if_neg (by simp)]
   clear s1 s2
   (unfold Gives;go_enter Tryz.func170,Tryz.ntmps170)
   go_wp2_with (go_at_call 75;(with_reducible refine (HO.out _).mono ?_);intro _)
   refine wp_loop_rounds 5 ?_
   rw [rounds_succ]
   go_wp2
   go_ret
   exact ⟨rfl,Up.go⟩
 have d1:decide (x1<x0)=false:=decide_eq_false (by omega)
 rw [decide_eq_true h1,Bool.true_and]
 by_cases h2:y0≤y1
 rotate_left
 · have d2:decide (y1<y0)=true:=decide_eq_true (by omega)
   rw [decide_eq_false h2,Bool.false_and,if_neg (by simp)]
   clear s1 s2
   (unfold Gives;go_enter Tryz.func170,Tryz.ntmps170)
   go_wp2_with (go_at_call 75;(with_reducible refine (HO.out _).mono ?_);intro _)
   refine wp_loop_rounds 5 ?_
   iterate 2 (rw [rounds_succ];go_wp2_with fail)
   go_ret
   exact ⟨rfl,Up.go⟩
 have d2:decide (y1<y0)=false:=decide_eq_false (by omega)
 rw [decide_eq_true h2,Bool.true_and]
 by_cases h3:u0≤u1
 rotate_left
 · have d3:decide (u1<u0)=true:=decide_eq_true (by omega)
   rw [decide_eq_false h3,Bool.false_and,if_neg (by simp)]
   clear s1 s2
   (unfold Gives;go_enter Tryz.func170,Tryz.ntmps170)
   go_wp2_with (go_at_call 75;(with_reducible refine (HO.out _).mono ?_);intro _)
   refine wp_loop_rounds 5 ?_
   iterate 3 (rw [rounds_succ];go_wp2_with fail)
   go_ret
   exact ⟨rfl,Up.go⟩
 have d3:decide (u1<u0)=false:=decide_eq_false (by omega)
 rw [decide_eq_true h3,Bool.true_and]
 by_cases h4:v0≤v1
 rotate_left
 · have d4:decide (v1<v0)=true:=decide_eq_true (by omega)
   rw [decide_eq_false h4,if_neg (by simp)]
   clear s1 s2
   (unfold Gives;go_enter Tryz.func170,Tryz.ntmps170)
   go_wp2_with (go_at_call 75;(with_reducible refine (HO.out _).mono ?_);intro _)
   refine wp_loop_rounds 5 ?_
   iterate 4 (rw [rounds_succ];go_wp2_with fail)
   go_ret
   exact ⟨rfl,Up.go⟩
 have d4:decide (v1<v0)=false:=decide_eq_false (by omega)
 rw [decide_eq_true h4,if_pos rfl]
 have hE:(if L=0 then if M=0 then (0:Int) else 2 else 2)=max L M:=by
  rcases s1 with rfl | rfl <;> rcases s2 with rfl | rfl <;> rfl
 rw [hE]
 have hLM:0≤L∧L≤2∧0≤M∧M≤2:=by omega
 clear s1 s2 hE h1 h2 h3 h4
 (unfold Gives;go_enter Tryz.func170,Tryz.ntmps170)
 go_wp2_with (go_at_call 75;(with_reducible refine (HO.out _).mono ?_);intro _)
 refine wp_loop_rounds 5 ?_
 iterate 5 (rw [rounds_succ];go_wp2_with fail)
 refine forgetW (fun V=>Up w V∧Box V w.heap.size #[.int .i64 (x0),.int .i64 (x1),.int .i64 (y0),.int .i64 (y1),.int .i64 (u0),.int .i64 (u1),.int .i64 (v0),.int .i64 (v1)] 69) ⟨Up.go,Box.go⟩ ?_
 rintro V ⟨hu,hb⟩
 obtain ⟨c0,c1,c2,c3,c4,c5,c6,c7⟩:=hb.c8
 have lc:=hb.lt
 have HB:=hide hu
 clear hu hb
 ((first | with_reducible refine wp_region_ext2 (by kernel_rfl) (by kernel_rfl) ?_ | refine wp_region_ext (by kernel_rfl) (by kernel_rfl) ?_);(repeat (go_big_quiet_step ((first | (go_at_call 67;with_reducible exact Gives.inRegion (HL.out _)) | (go_at_call 67;with_reducible exact Gives.inRegion (HH.out _))))));refine wpQuiet_nil ?_;intro _ hw';obtain ⟨_,hw''⟩:=hw';subst hw'')
 go_wp2
 go_ret
 exact ⟨rfl,(Up.via HB.out)⟩
def RBx (v:Value):Prop:=∃ b:BoxD,(-2800≤b.x0∧b.x0≤b.x1∧b.x1≤3200)∧(-2800≤b.y0∧b.y0≤b.y1∧b.y1≤3000)∧(-50≤b.u0∧b.u0≤b.u1∧b.u1≤57)∧(-50≤b.v0∧b.v0≤b.v1∧b.v1≤57)∧v=.agg (boxA b)
structure BxS (W:World) (B:Nat) (n:Int) (z p q:Nat) (px py vx vy:Int) (U:World):Prop where
 r:RingAt W B n U
 z:Box U z #[.int .i64 (0),.int .i64 (0),.int .i64 (0),.int .i64 (0),.int .i64 (0),.int .i64 (0),.int .i64 (0),.int .i64 (0)] 69
 p:Box U p #[.int .i64 (px),.int .i64 (py)] 48
 q:Box U q #[.int .i64 (vx),.int .i64 (vy)] 48
theorem BxS.grown {W:World} {B:Nat} {n m:Int} {z p q:Nat} {px py vx vy:Int} {U U':World} (h:BxS W B n z p q px py vx vy U) (hr:RingAt W B m U') (hg:U.grownBy U' (some B)) (nz:z≠B) (np:p≠B) (nq:q≠B):BxS W B m z p q px py vx vy U' :=
 ⟨hr,h.z.grown hg (by simp;omega),h.p.grown hg (by simp;omega),h.q.grown hg (by simp;omega)⟩
theorem boxof_r {w:World} {sl:Value} (hN:Nums w sl) {B:Nat} (hB:w.heap.size≤B) :
 RingGives 38 #[.pointer (some ⟨B,0,none⟩)] w sl B 9 RBx:=fun t W hu hb t0 t1=>by
 have KN:=hide (fun (m:Int) (m0:1≤m) (m1:m≤9223372036854775807) n V (hV:RingAt W B n V) (hn:n+1≤100000)=>(next_r hN hB m0 m1).at hu hb hB hV hn)
 have KP:=hide (fun (m:Int) (m0:0≤m) (m1:m≤1000000) n V (hV:RingAt W B n V) (hn:n+2≤100000)=>(pointof_k hN hB m0 m1).at hu hb hB hV hn)
 have KR:=hide (And.intro (next_r hN hB (m:=200) (by omega) (by omega)) (next_r hN hB (m:=8) (by omega) (by omega)))
 have HU:=hide (And.intro hu hb)
 have HR:=hide (RingAt.start (n:=t) hb t0 (by omega))
 have lB:=hb.lt
 clear hN hu hb
 obtain ⟨z,hz⟩:∃ b,b=W.heap.size:=⟨_,rfl⟩
 go_enter Tryz.func38,Tryz.ntmps38
 go_wp2_with fail
 go_at_call 76
 rw [← hz]
 refine forgetC (fun U=>RingAt W B t U∧Box U z #[.int .i64 (0),.int .i64 (0),.int .i64 (0),.int .i64 (0),.int .i64 (0),.int .i64 (0),.int .i64 (0),.int .i64 (0)] 69) ⟨HR.out.alloc _,by rw [hz];exact Box.go⟩ ?_
 have Nz:z≠B:=by omega
 have Wz:W.heap.size≤z:=by omega
 clear hz HR
 rintro V0 ⟨hR0,hz0⟩
 refine (KP.out 2800 (by omega) (by omega) _ _ hR0 (by omega)).mono ?_
 rintro _ V1 ⟨_,rfl,⟨px,py,px0,px1,py0,py1,rfl⟩,hR1,hg⟩
 have hz1:=hz0.grown hg (by simp;omega)
 have H1:=hide (And.intro hR1 hz1)
 clear hR0 hz0 hR1 hz1 hg
 go_wp2_with fail
 go_at_call 76
 refine (KP.out 50 (by omega) (by omega) _ _ H1.out.1 (by omega)).mono ?_
 rintro _ V2 ⟨_,rfl,⟨vx,vy,vx0,vx1,vy0,vy1,rfl⟩,hR2,hg⟩
 have hz2:=H1.out.2.grown hg (by simp;omega)
 have H2:=hide (And.intro hR2 hz2)
 have lz2:=hz2.lt
 have sz2:=hR2.size
 clear H1 hR2 hz2 hg
 go_wp2_with fail
 go_at_call 34
 obtain ⟨p,hp⟩:∃ b,b=V2.heap.size:=⟨_,rfl⟩
 obtain ⟨q,hq⟩:∃ b,b=V2.heap.size+1:=⟨_,rfl⟩
 rw [← hq,← hp]
 have Npq:p≠q:=by omega
 have Nqp:q≠p:=by omega
 have Nzp:z≠p:=by omega
 have Nzq:z≠q:=by omega
 have NpB:p≠B:=by omega
 have NqB:q≠B:=by omega
 have Wp:W.heap.size≤p:=by omega
 have Wq:W.heap.size≤q:=by omega
 refine forgetC (fun U=>RingAt W B (t+2+2) U∧Box U z #[.int .i64 (0),.int .i64 (0),.int .i64 (0),.int .i64 (0),.int .i64 (0),.int .i64 (0),.int .i64 (0),.int .i64 (0)] 69∧Box U p #[.int .i64 (px),.int .i64 (py)] 48∧Box U q #[.int .i64 (vx),.int .i64 (vy)] 48) ⟨(H2.out.1.alloc _).alloc _,(H2.out.2.alloc _).alloc _,by rw [hp];exact Box.go,by rw [hq];exact Box.go⟩ ?_
 clear H2 hp hq lz2 sz2
 rintro V3 ⟨hR3,hz3,hp3,hq3⟩
 have H3:=hide (BxS.mk hR3 hz3 hp3 hq3)
 clear hR3 hz3 hp3 hq3
 refine (KN.out 3 (by omega) (by omega) (t+2+2) _ H3.out.r (by omega)).mono ?_
 rintro _ V4 ⟨_,rfl,⟨a,a0,a1,rfl⟩,hR,hg⟩
 have H4:=hide (H3.out.grown hR hg Nz NpB NqB)
 clear hR hg H3
 go_wp2_with fail
 go_at_call 34
 refine (KN.out 200 (by omega) (by omega) (t+2+2+1) _ H4.out.r (by omega)).mono ?_
 rintro _ V5 ⟨_,rfl,⟨c,c0,c1,rfl⟩,hR,hg⟩
 have H5:=hide (H4.out.grown hR hg Nz NpB NqB)
 clear hR hg H4
 obtain ⟨wd,hwd,wd0,wd1⟩:∃ wd:Int,a*c=wd∧0≤wd∧wd≤398:=⟨_,rfl,Int.mul_nonneg a0 c0,by
  have h1:a*c≤2*c:=Int.mul_le_mul_of_nonneg_right (by omega) c0
  omega⟩
 go_wp2_with fail
 go_at_call 34
 refine (KN.out 8 (by omega) (by omega) (t+2+2+1+1) _ H5.out.r (by omega)).mono ?_
 rintro _ V6 ⟨_,rfl,⟨f,f0,f1,rfl⟩,hR,hg⟩
 have H6:=hide (H5.out.grown hR hg Nz NpB NqB)
 clear hR hg H5
 try rw [hwd]
 obtain ⟨t1,t10,t11,hbV⟩:=H6.out.r.box HU.out.2
 have HUV:=hide (And.intro (H6.out.r.up HU.out.1 hB) hbV)
 have HV:=hide (And.intro H6.out.z (And.intro H6.out.p H6.out.q))
 obtain ⟨p0,p1⟩:=H6.out.p.c2
 have lp:=H6.out.p.lt
 obtain ⟨q0,q1⟩:=H6.out.q.c2
 have lq:=H6.out.q.lt
 have lz:=H6.out.z.lt
 have lBV:=hbV.lt
 clear hbV
 go_wp2_with fail
 try rw [hwd]
 refine wp_region_float (al:=[]) (mv:=fun k=>k==12 || k==27) [31] [0,1,2,3,4,5,6,7,8,9,10,11,15,16,17,18,19,20,21,22,23,24,25,26,12,13,14,27,28,29,30] (by kernel_rfl) (by kernel_rfl) makes0 (cls_ring _ B (t1+0)) (ringAt_drew (sl:=sl) (t:=t1) (T:=98) HUV.out.2 t10 (by omega)) (Nat.le_refl _) ?_
 simp only [withOps,List.filterMap_cons,List.filterMap_nil,List.getElem?_toArray,List.getElem?_cons_zero,List.getElem?_cons_succ,Option.map_some]
 (repeat (first | (apply walkF_pure (base:=ringBase _ _) rfl rfl rfl (by kernel_rfl);· (rintro ⟨tx,px⟩ K hK;unfold ringBase;dsimp only;go_big_quiet_op;first | exact hK | (apply Exists.intro;refine ⟨fun _=>?_,?_⟩;(· (fail));exact hK))) | (apply walkF_skip rfl;simp only [Act.put,List.setIfInBounds_toArray,List.set_cons_zero,List.set_cons_succ])))
 refine walkF_call _ _ (ring_call KR.out.1 HUV.out.1 HUV.out.2 hB (by omega) (by omega)) (fun _ _=>cls_ring _ _ _) (by kernel_rfl) (by kernel_rfl) (fun _=>by simp [go_sem]) ?_
 rintro _ ⟨e,e0,e1,rfl⟩
 simp only [Act.put,List.setIfInBounds_toArray,List.set_cons_zero,List.set_cons_succ]
 (repeat (first | (apply walkF_pure (base:=ringBase _ _) rfl rfl rfl (by kernel_rfl);· (rintro ⟨tx,px⟩ K hK;unfold ringBase;dsimp only;go_big_quiet_op;first | exact hK | (apply Exists.intro;refine ⟨fun _=>?_,?_⟩;(· (fail));exact hK))) | (apply walkF_skip rfl;simp only [Act.put,List.setIfInBounds_toArray,List.set_cons_zero,List.set_cons_succ])))
 refine walkF_call _ _ (ring_call KR.out.2 HUV.out.1 HUV.out.2 hB (by omega) (by omega)) (fun _ _=>cls_ring _ _ _) (by kernel_rfl) (by kernel_rfl) (fun _=>by simp [go_sem]) ?_
 rintro _ ⟨g,g0,g1,rfl⟩
 simp only [Act.put,List.setIfInBounds_toArray,List.set_cons_zero,List.set_cons_succ]
 (repeat (first | (apply walkF_pure (base:=ringBase _ _) rfl rfl rfl (by kernel_rfl);· (rintro ⟨tx,px⟩ K hK;unfold ringBase;dsimp only;go_big_quiet_op;first | exact hK | (apply Exists.intro;refine ⟨fun _=>?_,?_⟩;(· (fail));exact hK))) | (apply walkF_skip rfl;simp only [Act.put,List.setIfInBounds_toArray,List.set_cons_zero,List.set_cons_succ])))
 refine walkF_nil (end0 fun U hU=>?_)
 (try simp only [List.filterMap_cons,List.filterMap_nil,List.getElem?_toArray,List.getElem?_cons_zero,List.getElem?_cons_succ])
 have hRU:=H6.out.r.trans hU lB
 have hzU:=hU.other HV.out.1 Nz
 have HZ:=hide (And.intro hRU hzU)
 clear hU p0 p1 lp q0 q1 lq lz H6 HV
 obtain ⟨z0,z1,z2,z3,z4,z5,z6,z7⟩:=(hzU).c8
 have lz:=(hzU).lt
 obtain ⟨fzz0,fzz1,fzz2,fzz3,fzz4,fzz5,fzz6,fzz7⟩:=(hzU).f8
 clear hRU hzU
 go_wp2_with fail
 refine forgetW (fun U=>RingAt W B (t1+0+1+1) U∧Box U z #[.int .i64 (px),.int .i64 (px+wd),.int .i64 (py),.int .i64 (py+e),.int .i64 (vx),.int .i64 (vx+f),.int .i64 (vy),.int .i64 (vy+g)] 69) ?_ ?_
 · exact ⟨((((((((HZ.out.1.set Wz 0 _).set Wz 1 _).set Wz 2 _).set Wz 3 _).set Wz 4 _).set Wz 5 _).set Wz 6 _).set Wz 7 _),((((((((HZ.out.2.set 0 (.int .i64 (px))).set 1 (.int .i64 (px+wd))).set 2 (.int .i64 (py))).set 3 (.int .i64 (py+e))).set 4 (.int .i64 (vx))).set 5 (.int .i64 (vx+f))).set 6 (.int .i64 (vy))).set 7 (.int .i64 (vy+g)))⟩
 clear HZ z0 z1 z2 z3 z4 z5 z6 z7 lz fzz0 fzz1 fzz2 fzz3 fzz4 fzz5 fzz6 fzz7
 rintro U2 ⟨hR,hz⟩
 obtain ⟨z0,z1,z2,z3,z4,z5,z6,z7⟩:=hz.c8
 exact bodyPost_ret (v:=.agg #[.int .i64 (px),.int .i64 (px+wd),.int .i64 (py),.int .i64 (py+e),.int .i64 (vx),.int .i64 (vx+f),.int .i64 (vy),.int .i64 (vy+g)]) (by simp [results,Tryz.results38,go_sem,z0,z1,z2,z3,z4,z5,z6,z7]) rfl (ring_at_out (n:=t1+0+1+1) hR (by omega) ⟨⟨px,px+wd,py,py+e,vx,vx+f,vy,vy+g⟩,⟨by omega,by dsimp only;omega,by dsimp only;omega⟩,⟨by omega,by dsimp only;omega,by dsimp only;omega⟩,⟨by omega,by dsimp only;omega,by dsimp only;omega⟩,⟨by omega,by dsimp only;omega,by dsimp only;omega⟩,rfl⟩)
def RFour (v:Value):Prop:=∃ a b c d:Int,(-1048576≤a∧a≤1048576)∧(-1048576≤b∧b≤1048576)∧(-1048576≤c∧c≤1048576)∧(-1048576≤d∧d≤1048576)∧v=.agg #[.int .i64 (a),.int .i64 (b),.int .i64 (c),.int .i64 (d)]
def Four (c:Array Value):Prop:=c.size=4∧∀ j,j<4→∃ x:Int,(-1048576≤x∧x≤1048576)∧c[j]?=some (.int .i64 x)
theorem Four.set {c:Array Value} (h:Four c) (i:Nat) {x:Int} (hx:-1048576≤x∧x≤1048576):Four (c.setIfInBounds i (.int .i64 x)):=by
 refine ⟨by simp [h.1],fun j hj=>?_⟩
 by_cases e:i=j
 · subst e
   exact ⟨x,hx,by rw [Array.getElem?_setIfInBounds_self];simp [h.1,hj]⟩
 · rw [Array.getElem?_setIfInBounds_ne e]
   exact h.2 j hj
theorem Four.form {c:Array Value} (h:Four c):∃ a b x d:Int,(-1048576≤a∧a≤1048576)∧(-1048576≤b∧b≤1048576)∧(-1048576≤x∧x≤1048576)∧(-1048576≤d∧d≤1048576)∧c=#[.int .i64 (a),.int .i64 (b),.int .i64 (x),.int .i64 (d)]:=by
 obtain ⟨hs,hc⟩:=h
 obtain ⟨a,ha,ea⟩:=hc 0 (by decide)
 obtain ⟨b,hb,eb⟩:=hc 1 (by decide)
 obtain ⟨x,hx,ex⟩:=hc 2 (by decide)
 obtain ⟨d,hd,ed⟩:=hc 3 (by decide)
 refine ⟨a,b,x,d,ha,hb,hx,hd,?_⟩
 apply Array.ext_getElem?
 intro i
 match i with
 | 0=>simpa using ea
 | 1=>simpa using eb
 | 2=>simpa using ex
 | 3=>simpa using ed
 | n+4=>rw [Array.getElem?_eq_none (by omega)];simp
theorem Four.zero:Four #[.int .i64 (0),.int .i64 (0),.int .i64 (0),.int .i64 (0)]:=⟨rfl,fun j hj=>⟨0,by omega,by
 match j,hj with
 | 0,_=>rfl
 | 1,_=>rfl
 | 2,_=>rfl
 | 3,_=>rfl⟩⟩
structure FrS (W:World) (B:Nat) (n:Int) (z p:Nat) (c:Array Value) (U:World):Prop where
 r:RingAt W B n U
 z:Box U z #[.int .i64 (0),.int .i64 (0),.int .i64 (0),.int .i64 (0)] 147
 p:Box U p c 147
 c:Four c
theorem FrS.grown {W:World} {B:Nat} {n m:Int} {z p:Nat} {c:Array Value} {U U':World} (h:FrS W B n z p c U) (hr:RingAt W B m U') (hg:U.grownBy U' (some B)) (nz:z≠B) (np:p≠B):FrS W B m z p c U' :=
 ⟨hr,h.z.grown hg (by simp;omega),h.p.grown hg (by simp;omega),h.c⟩
theorem FrS.set {W:World} {B:Nat} {n:Int} {z p:Nat} {c:Array Value} {U:World} (h:FrS W B n z p c U) (hp:W.heap.size≤p) (hne:z≠p) (i:Nat) {x:Int} (hx:-1048576≤x∧x≤1048576):FrS W B n z p (c.setIfInBounds i (.int .i64 x)) (U.setCell ⟨p,i,none⟩ (.int .i64 x)) :=
 ⟨h.r.set hp i _,h.z.other hne i _,h.p.set i _,h.c.set i hx⟩
theorem func4_r {w:World} {sl:Value} (hN:Nums w sl) {B:Nat} (hB:w.heap.size≤B) :
 RingGives 77 #[.pointer (some ⟨B,0,none⟩)] w sl B 8 RFour:=fun t W hu hb t0 t1=>by
 have KN:=hide (fun (m:Int) (m0:1≤m) (m1:m≤9223372036854775807) n V (hV:RingAt W B n V) (hn:n+1≤100000)=>(next_r hN hB m0 m1).at hu hb hB hV hn)
 have HR:=hide (RingAt.start (n:=t) hb t0 (by omega))
 have lB:=hb.lt
 clear hN hB hu hb
 obtain ⟨z,hz⟩:∃ b,b=W.heap.size:=⟨_,rfl⟩
 obtain ⟨p,hp⟩:∃ b,b=W.heap.size+1:=⟨_,rfl⟩
 go_enter Tryz.func77,Tryz.ntmps77
 go_wp2_with fail
 rw [← hp,← hz]
 refine forgetW (fun U=>FrS W B t z p #[.int .i64 (0),.int .i64 (0),.int .i64 (0),.int .i64 (0)] U) ⟨(HR.out.alloc _).alloc _,by rw [hz];exact Box.go,by rw [hp];exact Box.go,Four.zero⟩ ?_
 have Nz:z≠B:=by omega
 have Np:p≠B:=by omega
 have Nzp:z≠p:=by omega
 have Npz:p≠z:=by omega
 have Wp:W.heap.size≤p:=by omega
 have Wz:W.heap.size≤z:=by omega
 clear hz hp HR
 intro V0 h0
 have H0:=hide h0
 clear h0
 go_loopw [4] (fun s4 wr=>∃ (i:Nat) (c:Array Value),i≤4∧s4=.int .i64 i∧Hid (FrS W B (t+2*i) z p c wr)) (fun s4 _=>4 - (intOf s4).toNat)
 case atStart=>exact ⟨0,_,by omega,rfl,by simpa using H0⟩
 case round =>
  obtain ⟨i,c,hi,rfl,HI⟩:=hrel
  clear H0
  by_cases hlt:i<4
  · have hib:decide ((i:Int)<4)=true:=by simp;omega
    have hin:decide (i<4)=true:=by simp;omega
    have hcs:=HI.out.c.1
    go_wp2_with fail
    go_at_call 34
    refine (KN.out 1048576 (by omega) (by omega) (t+2*i) _ HI.out.r (by omega)).mono ?_
    rintro _ V1 ⟨_,rfl,⟨x,x0,x1,rfl⟩,hR,hg⟩
    have H1:=hide (HI.out.grown hR hg Nz Np)
    have lp:=H1.out.p.lt
    have fz:=H1.out.p.frozen i
    obtain ⟨o,_,ho⟩:=H1.out.c.2 i hlt
    have pc:=H1.out.p.cell i ho
    clear hR hg HI ho
    go_wp2_with fail
    go_at_call 34
    refine forgetC (fun U=>FrS W B (t+2*i+1) z p (c.setIfInBounds i (.int .i64 x)) U) (H1.out.set Wp Nzp i (by omega)) ?_
    clear H1 lp fz pc
    intro V2 h2
    refine (KN.out 4 (by omega) (by omega) (t+2*i+1) _ h2.r (by omega)).mono ?_
    rintro _ V3 ⟨_,rfl,⟨k,k0,k1,rfl⟩,hR,hg⟩
    have H3:=hide (h2.grown hR hg Nz Np)
    have lp:=H3.out.p.lt
    have fz:=H3.out.p.frozen i
    have pc:=H3.out.p.cell i (v:=.int .i64 x) (by rw [Array.getElem?_setIfInBounds_self];simp [hcs,hlt])
    clear hR hg h2
    have hn:t+2*(i:Int)+1+1=t+2*((i+1:Nat):Int):=by omega
    rw [hn] at H3
    by_cases hk:k<2
    · have hkb:decide (k<2)=true:=decide_eq_true hk
      go_wp2_with fail
      go_roundw
      case rel=>exact ⟨i+1,_,by omega,by go_num,hide (H3.out.set Wp Nzp i (by omega))⟩
      case measure=>simp [intOf];omega
    · have hkb:decide (k<2)=false:=decide_eq_false hk
      go_wp2_with fail
      go_roundw
      case rel=>exact ⟨i+1,_,by omega,by go_num,H3⟩
      case measure=>simp [intOf];omega
  · have hib:decide ((i:Int)<4)=false:=by simp;omega
    have hin:decide (i<4)=false:=by simp;omega
    obtain rfl:i=4:=by omega
    obtain ⟨a,b,x,d,ha,hb,hx,hd,rfl⟩:=HI.out.c.form
    obtain ⟨p0,p1,p2,p3⟩:=(HI.out.p).c4
    have lp:=(HI.out.p).lt
    obtain ⟨fzp0,fzp1,fzp2,fzp3⟩:=(HI.out.p).f4
    obtain ⟨z0,z1,z2,z3⟩:=(HI.out.z).c4
    have lz:=(HI.out.z).lt
    obtain ⟨fzz0,fzz1,fzz2,fzz3⟩:=(HI.out.z).f4
    go_wp2_with fail
    refine forgetW (fun U=>RingAt W B (t+2*(4:Nat)) U∧Box U z #[.int .i64 (a),.int .i64 (b),.int .i64 (x),.int .i64 (d)] 147) ?_ ?_
    · exact ⟨((((HI.out.r.set Wz 0 _).set Wz 1 _).set Wz 2 _).set Wz 3 _),((((HI.out.z.set 0 (.int .i64 a)).set 1 (.int .i64 b)).set 2 (.int .i64 x)).set 3 (.int .i64 d))⟩
    clear HI p0 p1 p2 p3 lp fzp0 fzp1 fzp2 fzp3 z0 z1 z2 z3 lz fzz0 fzz1 fzz2 fzz3
    rintro U2 ⟨hR,hz⟩
    obtain ⟨z0,z1,z2,z3⟩:=hz.c4
    exact bodyPost_ret (v:=.agg #[.int .i64 (a),.int .i64 (b),.int .i64 (x),.int .i64 (d)]) (by simp [results,Tryz.results77,go_sem,z0,z1,z2,z3]) rfl (ring_at_out hR (by omega) ⟨a,b,x,d,ha,hb,hx,hd,rfl⟩)
def RState (b:BoxD) (v:Value):Prop:=∃ x y u w:Int,(b.x0≤x∧x≤b.x1)∧(b.y0≤y∧y≤b.y1)∧(b.u0≤u∧u≤b.u1)∧(b.v0≤w∧w≤b.v1)∧v=.agg #[.int .i64 (x),.int .i64 (y),.int .i64 (u),.int .i64 w]
theorem statein_r {w:World} {sl:Value} (hN:Nums w sl) {B:Nat} (hB:w.heap.size≤B) {b:BoxD} (hbk:BOk b) :
 RingGives 39 #[.pointer (some ⟨B,0,none⟩),.agg (boxA b)] w sl B 8 (RState b):=fun t W hu hb t0 t1=>by
 have K4:=hide (fun n V (hV:RingAt W B n V) (hn:n+8≤100000)=>(func4_r hN hB).at hu hb hB hV hn)
 have HR:=hide (RingAt.start (n:=t) hb t0 (by omega))
 have lB:=hb.lt
 have HU:=hide (And.intro hu hb)
 obtain ⟨x0,x1,y0,y1,u0,u1,v0,v1⟩:=b
 obtain ⟨hx,hy,hu',hv⟩:=hbk
 dsimp only at hx hy hu' hv
 have I1:=hide (fun n h=>inspan_any x0 x1 n (by omega) (by omega) (by omega) h)
 have I2:=hide (fun n h=>inspan_any y0 y1 n (by omega) (by omega) (by omega) h)
 have I3:=hide (fun n h=>inspan_any u0 u1 n (by omega) (by omega) (by omega) h)
 have I4:=hide (fun n h=>inspan_any v0 v1 n (by omega) (by omega) (by omega) h)
 clear hN hB hu hb hx hy hu' hv
 obtain ⟨bx,hbx⟩:∃ b,b=W.heap.size:=⟨_,rfl⟩
 obtain ⟨z,hz⟩:∃ b,b=W.heap.size+1:=⟨_,rfl⟩
 unfold boxA
 dsimp only
 go_enter Tryz.func39,Tryz.ntmps39
 go_wp2_with fail
 go_at_call 77
 rw [← hz,← hbx]
 refine forgetC (fun U=>RingAt W B t U∧Box U bx #[.int .i64 (x0),.int .i64 (x1),.int .i64 (y0),.int .i64 (y1),.int .i64 (u0),.int .i64 (u1),.int .i64 (v0),.int .i64 (v1)] 69∧Box U z #[.int .i64 (0),.int .i64 (0),.int .i64 (0),.int .i64 (0)] 37) ⟨(HR.out.alloc _).alloc _,by rw [hbx];exact Box.go,by rw [hz];exact Box.go⟩ ?_
 have Nz:z≠B:=by omega
 have Nb:bx≠B:=by omega
 have Nbz:bx≠z:=by omega
 have Wz:W.heap.size≤z:=by omega
 clear hz hbx HR
 rintro V0 ⟨hR0,hb0,hz0⟩
 refine (K4.out t _ hR0 (by omega)).mono ?_
 rintro _ V1 ⟨_,rfl,⟨a,b,c,d,ha,hb,hc,hd,rfl⟩,hR,hg⟩
 have H1:=hide (And.intro hR (And.intro (hb0.grown hg (by simp;omega)) (hz0.grown hg (by simp;omega))))
 clear hR0 hb0 hz0 hR hg K4
 go_wp2_with fail
 obtain ⟨q,hq⟩:∃ q,q=V1.heap.size:=⟨_,rfl⟩
 rw [← hq]
 refine forgetW (fun U=>RingAt W B (t+8) U∧Box U bx #[.int .i64 (x0),.int .i64 (x1),.int .i64 (y0),.int .i64 (y1),.int .i64 (u0),.int .i64 (u1),.int .i64 (v0),.int .i64 (v1)] 69∧Box U z #[.int .i64 (0),.int .i64 (0),.int .i64 (0),.int .i64 (0)] 37∧Box U q #[.int .i64 (a),.int .i64 (b),.int .i64 (c),.int .i64 (d)] 147) ⟨H1.out.1.alloc _,H1.out.2.1.alloc _,H1.out.2.2.alloc _,by rw [hq];exact Box.go⟩ ?_
 clear H1 hq
 intro V2 h2
 have H2:=hide h2
 clear h2
 obtain ⟨X,X0,X1,KX⟩:=I1.out a (by omega)
 obtain ⟨Y,Y0,Y1,KY⟩:=I2.out b (by omega)
 obtain ⟨U,U0,U1,KU⟩:=I3.out c (by omega)
 obtain ⟨T,T0,T1,KT⟩:=I4.out d (by omega)
 have KX:=hide KX
 have KY:=hide KY
 have KU:=hide KU
 have KT:=hide KT
 clear I1 I2 I3 I4
 obtain ⟨bb0,bb1,bb2,bb3,bb4,bb5,bb6,bb7⟩:=(H2.out.2.1).c8
 have lbb:=(H2.out.2.1).lt
 obtain ⟨fzbb0,fzbb1,fzbb2,fzbb3,fzbb4,fzbb5,fzbb6,fzbb7⟩:=(H2.out.2.1).f8
 obtain ⟨zz0,zz1,zz2,zz3⟩:=(H2.out.2.2.1).c4
 have lzz:=(H2.out.2.2.1).lt
 obtain ⟨fzzz0,fzzz1,fzzz2,fzzz3⟩:=(H2.out.2.2.1).f4
 obtain ⟨qq0,qq1,qq2,qq3⟩:=(H2.out.2.2.2).c4
 have lqq:=(H2.out.2.2.2).lt
 obtain ⟨fzqq0,fzqq1,fzqq2,fzqq3⟩:=(H2.out.2.2.2).f4
 ((first | with_reducible refine wp_region_ext_tail2 1 (by kernel_rfl) (by kernel_rfl) ?_ | refine wp_region_ext_tail 1 (by kernel_rfl) (by kernel_rfl) ?_);simp only [List.length_cons,List.length_nil,Nat.reduceAdd,Nat.reduceSub,List.take_succ_cons,List.take_zero,List.drop_succ_cons,List.drop_zero];(repeat (go_big_quiet_step ((first | (go_at_call 71;with_reducible exact Gives.inRegion (KX.out _)) | (go_at_call 71;with_reducible exact Gives.inRegion (KY.out _)) | (go_at_call 71;with_reducible exact Gives.inRegion (KU.out _)) | (go_at_call 71;with_reducible exact Gives.inRegion (KT.out _))))));refine wpQuiet_nil ?_;intro _ hw';obtain ⟨_,hw''⟩:=hw';subst hw'')
 go_wp2_with fail
 refine forgetW (fun WF=>RingAt W B (t+8) WF∧Box WF z #[.int .i64 (X),.int .i64 (Y),.int .i64 (U),.int .i64 (T)] 37) ?_ ?_
 · refine ⟨?_,?_⟩
   · exact ((((H2.out.1.set Wz 0 _).set Wz 1 _).set Wz 2 _).set Wz 3 _).ext _
   · exact ((((H2.out.2.2.1.set 0 (.int .i64 X)).set 1 (.int .i64 Y)).set 2 (.int .i64 U)).set 3 (.int .i64 T)).ext _
 clear H2 bb0 bb1 bb2 bb3 bb4 bb5 bb6 bb7 lbb fzbb0 fzbb1 fzbb2 fzbb3 fzbb4 fzbb5 fzbb6 fzbb7 zz0 zz1 zz2 zz3 lzz fzzz0 fzzz1 fzzz2 fzzz3 qq0 qq1 qq2 qq3 lqq fzqq0 fzqq1 fzqq2 fzqq3
 rintro WF ⟨hR,hz⟩
 obtain ⟨z0,z1,z2,z3⟩:=hz.c4
 exact bodyPost_ret (v:=.agg #[.int .i64 (X),.int .i64 (Y),.int .i64 (U),.int .i64 (T)]) (by simp [results,Tryz.results39,go_sem,z0,z1,z2,z3]) rfl (ring_at_out hR (by omega) ⟨X,Y,U,T,⟨X0,X1⟩,⟨Y0,Y1⟩,⟨U0,U1⟩,⟨T0,T1⟩,rfl⟩)
theorem oset_any {K:Nat→Prop} {w:World} {a:Option Addr} {n c:Nat} {l:List BoxD} (hl:Boxes K w (.slice a n c) l):Gives Tryz.prog 130 #[.slice a n c] w (.int .i64 (setE l)):=by
 have hn:=(Boxes.at hl).1
 have hm:=(Boxes.at hl).2.1
 by_cases z5:512<n
 · have hE:setE l=8:=by unfold setE;rw [if_pos (by omega)]
   rw [hE]
   have d0:decide ((512:Int)<n)=true:=by simp;omega
   have d1:decide (512<n)=true:=by simp;omega
   clear hE hl hn
   (unfold Gives;go_enter Tryz.func130,Tryz.ntmps130)
   go_wp2
   go_ret
   exact ⟨rfl,Up.go⟩
 have hE:setE l=firstE boxE l:=by unfold setE;rw [if_neg (by omega)]
 rw [hE]
 have d0:decide ((512:Int)<n)=false:=by simp;omega
 have HL:=hide hl
 have HN:=hide hn
 clear hE hl hn
 (unfold Gives;go_enter Tryz.func130,Tryz.ntmps130)
 go_wp2
 go_loopw [11] (fun s wr=>∃ k:Nat,k≤n∧s=.int .i64 k∧Hid (Up w wr∧noneYet (fun x=>boxE x != 0) l k)) (fun s _=>n - (intOf s).toNat)
 case atStart=>exact ⟨0,by omega,rfl,hide ⟨Up.refl _,fun i p hi _=>by omega⟩⟩
 case round =>
  obtain ⟨k,hk,rfl,HI⟩:=hrel
  by_cases hlt:k<n
  · obtain ⟨b,o,p,rfl,hKb,hbw,hp,c0,c1,c2,c3,c4,c5,c6,c7⟩:=(Boxes.at (HL.out.keeps (HI.out.1.keeps K))).2.2 k hlt
    have hkb:decide ((k:Int)<n)=true:=by simp;omega
    have HP:=hide hp
    clear hp hKb
    by_cases hF:boxE p=0
    · have hF':(boxE p != 0)=false:=by simp [hF]
      have HS:=hide hF
      clear hF
      go_wp2_with (go_at_call 170;(with_reducible refine (obox_any _ _).mono ?_);intro _)
      go_roundw
      case rel=>exact ⟨k+1,by omega,by go_num,hide ⟨HI.out.1.trans Up.go,HI.out.2.succ HP.out (by simpa using HS.out)⟩⟩
      case measure=>simp [intOf];omega
    · have hF':(boxE p != 0)=true:=by simp [hF]
      have HS:=hide hF
      clear hF
      go_wp2_with (go_at_call 170;(with_reducible refine (obox_any _ _).mono ?_);intro _)
      go_ret
      refine ⟨ret_int ?_,HI.out.1.trans Up.go⟩
      rw [firstE_found HI.out.2 HP.out HS.out]
  · have hkb:decide ((k:Int)<n)=false:=by simp;omega
    obtain rfl:k=n:=by omega
    have HF:=hide (show firstE boxE l=0 from firstE_none (by rw [← HN.out];exact HI.out.2))
    go_wp2
    go_ret
    exact ⟨ret_int (by rw [HF.out]),HI.out.1.trans Up.go⟩
theorem oworld_any {K:Nat→Prop} {w:World} {a:Option Addr} {n c:Nat} {bs:List Bod} {home:Int} (hl:Bods K w (.slice a n c) bs) (hh:I64 home) (d:DriftD):Gives Tryz.prog 65 #[.agg #[.slice a n c,.int .i64 home],.agg #[.int .i64 (d.l.1),.int .i64 (d.l.2),.int .i64 (d.h.1),.int .i64 (d.h.2),.int .i64 (d.g)]] w (.int .i64 (worldDE bs home d)):=by
 have HW:=hide (fun W (hu:Up w W)=>skworld_any (hl.keeps (hu.keeps K)) hh)
 have HD:=hide (fun W=>fdrift_any d.l.1 d.l.2 d.h.1 d.h.2 d.g W)
 unfold worldDE
 rw [show driftE d.l d.h d.g=driftE (d.l.1,d.l.2) (d.h.1,d.h.2) d.g from rfl]
 generalize driftE (d.l.1,d.l.2) (d.h.1,d.h.2) d.g=D at *
 by_cases he:worldE bs home=0
 · rw [if_pos he]
   rw [he] at HW
   clear hl hh he
   (unfold Gives;go_enter Tryz.func65,Tryz.ntmps65)
   go_wp2_with (first|(go_at_call 81;(with_reducible refine (HW.out _ Up.go).mono ?_);intro _)|(go_at_call 114;(with_reducible refine (HD.out _).mono ?_);intro _))
   go_ret
   exact ⟨rfl,Up.go⟩
 · rw [if_neg he]
   have heb:(worldE bs home != 0)=true:=by simp [he]
   generalize worldE bs home=E at *
   clear hl hh he
   (unfold Gives;go_enter Tryz.func65,Tryz.ntmps65)
   go_wp2_with (first|(go_at_call 81;(with_reducible refine (HW.out _ Up.go).mono ?_);intro _)|(go_at_call 114;(with_reducible refine (HD.out _).mono ?_);intro _))
   go_ret
   exact ⟨rfl,Up.go⟩
theorem ostep_any {K:Nat→Prop} {w:World} {a:Option Addr} {n c:Nat} {bs:List Bod} {home:Int} (hl:Bods K w (.slice a n c) bs) (hh:I64 home) (d:DriftD) (hw:worldDE bs home d=0) {t:Int} (ht:0≤t∧t≤1073741824) {b:BoxD} (hb:BOk b):Gives Tryz.prog 131 #[.agg #[.slice a n c,.int .i64 home],.agg #[.int .i64 (d.l.1),.int .i64 (d.l.2),.int .i64 (d.h.1),.int .i64 (d.h.2),.int .i64 (d.g)],.int .i64 t,.agg (boxA b)] w (.tuple #[.agg (boxA (stepV bs d t b)),.bool (boxE (stepV bs d t b)==0)]):=by
 have HO:=hide (fun W (hu:Up w W)=>fOver_any (hl.keeps (hu.keeps K)) hh d.l d.h d.g t (areaX b))
 rw [over_ok hw ht hb] at HO
 obtain ⟨a0,a1,a2,a3,hov,ha,hav,hst⟩:=step_bd (t:=t) hw hb
 rw [hov] at HO
 rw [hst]
 obtain ⟨x0,x1,y0,y1,u0,u1,v0,v1⟩:=b
 obtain ⟨bx,byy,bu,bv⟩:=hb
 unfold boxA areaX at *
 dsimp only at *
 have HU:=hide (fun W=>oadd_any (a:=u0) (b:=u1) (c:=a0) (d:=a1) (by omega) (by omega) (by omega) (by omega) W)
 have HV:=hide (fun W=>oadd_any (a:=v0) (b:=v1) (c:=a2) (d:=a3) (by omega) (by omega) (by omega) (by omega) W)
 have HX:=hide (fun W=>oadd_any (a:=x0) (b:=x1) (c:=u0+a0) (d:=u1+a1) (by omega) (by omega) (by omega) (by omega) W)
 have HY:=hide (fun W=>oadd_any (a:=y0) (b:=y1) (c:=v0+a2) (d:=v1+a3) (by omega) (by omega) (by omega) (by omega) W)
 generalize u0+a0=p0 at *
 generalize u1+a1=p1 at *
 generalize v0+a2=q0 at *
 generalize v1+a3=q1 at *
 generalize x0+p0=m0 at *
 generalize x1+p1=m1 at *
 generalize y0+q0=n0 at *
 generalize y1+q1=n1 at *
 have HC:=hide (fun W=>obox_any ⟨m0,m1,n0,n1,p0,p1,q0,q1⟩ W)
 unfold boxA at HC
 dsimp only at HC
 generalize boxE ⟨m0,m1,n0,n1,p0,p1,q0,q1⟩=E at *
 clear hl hw ht hov ha hav hst bx byy bu bv
 (unfold Gives;go_enter Tryz.func131,Tryz.ntmps131)
 go_wp2_with fail
 go_at_call 157
 refine forgetK (fun wr=>Up w wr∧Box wr w.heap.size #[.slice a n c,.int .i64 home] 25∧Box wr (w.heap.size+1) #[.int .i64 (d.l.1),.int .i64 (d.l.2),.int .i64 (d.h.1),.int .i64 (d.h.2),.int .i64 (d.g)] 33∧Box wr (w.heap.size+1+1) #[.int .i64 (x0),.int .i64 (x1),.int .i64 (y0),.int .i64 (y1),.int .i64 (u0),.int .i64 (u1),.int .i64 (v0),.int .i64 (v1)] 69∧Box wr (w.heap.size+1+1+1) #[.int .i64 (0),.int .i64 (0),.int .i64 (0),.int .i64 (0),.int .i64 (0),.int .i64 (0),.int .i64 (0),.int .i64 (0)] 69) ⟨Up.go,Box.go,Box.go,Box.go,Box.go⟩ ?_
 rintro V0 ⟨hu,b0,b1,b2,b3⟩
 have HB0:=hide (And.intro hu (And.intro b0 (And.intro b1 (And.intro b2 b3))))
 clear hu b0 b1 b2 b3
 obtain ⟨w0,w1⟩:=(HB0.out.2.1).c2
 have lw:=(HB0.out.2.1).lt
 obtain ⟨dd0,dd1,dd2,dd3,dd4⟩:=(HB0.out.2.2.1).c5
 have ldd:=(HB0.out.2.2.1).lt
 obtain ⟨b0,b1,b2,b3,b4,b5,b6,b7⟩:=(HB0.out.2.2.2.1).c8
 have lb:=(HB0.out.2.2.2.1).lt
 obtain ⟨z0,z1,z2,z3,z4,z5,z6,z7⟩:=(HB0.out.2.2.2.2).c8
 have lz:=(HB0.out.2.2.2.2).lt
 obtain ⟨fzz0,fzz1,fzz2,fzz3,fzz4,fzz5,fzz6,fzz7⟩:=(HB0.out.2.2.2.2).f8
 refine (HO.out _ (Up.viz HB0.out.1)).mono ?_
 intro qa
 go_wp2_with fail
 obtain ⟨ga,hga⟩:∃ g,g=V0.heap.size+qa.os.size:=⟨_,rfl⟩
 try rw [← hga]
 have lga:w.heap.size+1+1+1<ga:=by omega
 refine forgetW (fun wr=>Up w wr∧Box wr w.heap.size #[.slice a n c,.int .i64 home] 25∧Box wr (w.heap.size+1) #[.int .i64 (d.l.1),.int .i64 (d.l.2),.int .i64 (d.h.1),.int .i64 (d.h.2),.int .i64 (d.g)] 33∧Box wr (w.heap.size+1+1) #[.int .i64 (x0),.int .i64 (x1),.int .i64 (y0),.int .i64 (y1),.int .i64 (u0),.int .i64 (u1),.int .i64 (v0),.int .i64 (v1)] 69∧Box wr (w.heap.size+1+1+1) #[.int .i64 (0),.int .i64 (0),.int .i64 (0),.int .i64 (0),.int .i64 (0),.int .i64 (0),.int .i64 (0),.int .i64 (0)] 69∧Box wr ga #[.int .i64 (a0),.int .i64 (a1),.int .i64 (a2),.int .i64 (a3)] 61) ⟨(Up.viz HB0.out.1),(Box.viz HB0.out.2.1),(Box.viz HB0.out.2.2.1),(Box.viz HB0.out.2.2.2.1),(Box.viz HB0.out.2.2.2.2),by rw [hga];exact Box.mk (ext_size _ _)⟩ ?_
 clear HB0 w0 w1 lw dd0 dd1 dd2 dd3 dd4 ldd b0 b1 b2 b3 b4 b5 b6 b7 lb z0 z1 z2 z3 z4 z5 z6 z7 lz fzz0 fzz1 fzz2 fzz3 fzz4 fzz5 fzz6 fzz7
 clear hga
 rintro V1 ⟨hu,b0,b1,b2,b3,b4⟩
 have HB1:=hide (And.intro hu (And.intro b0 (And.intro b1 (And.intro b2 (And.intro b3 b4)))))
 clear hu b0 b1 b2 b3 b4
 obtain ⟨w0,w1⟩:=(HB1.out.2.1).c2
 have lw:=(HB1.out.2.1).lt
 obtain ⟨dd0,dd1,dd2,dd3,dd4⟩:=(HB1.out.2.2.1).c5
 have ldd:=(HB1.out.2.2.1).lt
 obtain ⟨b0,b1,b2,b3,b4,b5,b6,b7⟩:=(HB1.out.2.2.2.1).c8
 have lb:=(HB1.out.2.2.2.1).lt
 obtain ⟨z0,z1,z2,z3,z4,z5,z6,z7⟩:=(HB1.out.2.2.2.2.1).c8
 have lz:=(HB1.out.2.2.2.2.1).lt
 obtain ⟨fzz0,fzz1,fzz2,fzz3,fzz4,fzz5,fzz6,fzz7⟩:=(HB1.out.2.2.2.2.1).f8
 obtain ⟨k0,k1,k2,k3⟩:=(HB1.out.2.2.2.2.2).c4
 have lk:=(HB1.out.2.2.2.2.2).lt
 refine wp_region_float (al:=[(10,12,#[.int .i64 (0),.int .i64 (0)],31),(11,13,#[.int .i64 (0),.int .i64 (0)],31)]) (mv:=fun _=>false) [12,13] [0,1,2,3,4,5,6,7,8,9] (by kernel_rfl) (by kernel_rfl) (makes2 ⟨_,rfl,rfl,fun _=>rfl,fun _ _=>by simp [go_sem]⟩ ⟨_,rfl,rfl,fun _=>rfl,fun _ _=>by simp [go_sem]⟩) (cls_ext _) (by first|exact drew_in2 _ _|exact drew_in _) (Nat.le_refl _) ?_
 simp only [withOps,List.filterMap_cons,List.filterMap_nil,List.getElem?_toArray,List.getElem?_cons_zero,List.getElem?_cons_succ,Option.map_some]
 (repeat (first|(apply walkF_pure (base:=fun p:Ext=>ext _ p) rfl rfl rfl (by kernel_rfl);· (intro px K hK;go_big_quiet_op;first|exact hK|(apply Exists.intro;refine ⟨fun _=>?_,?_⟩;(· ((first|(go_at_call 171;with_reducible exact Gives.inFloat (HU.out _))|(go_at_call 171;with_reducible exact Gives.inFloat (HV.out _)))));exact hK)))|(apply walkF_skip rfl;simp only [Act.put,List.setIfInBounds_toArray,List.set_cons_zero,List.set_cons_succ])))
 refine walkF_nil (end2 (by decide) (fun g1 g2 W2 hg1 hg2 hg12 hW2 z1 z2=>?_))
 simp only [Act.put,List.setIfInBounds_toArray,List.set_cons_zero,List.set_cons_succ]
 (try simp only [List.filterMap_cons,List.filterMap_nil,List.getElem?_toArray,List.getElem?_cons_zero,List.getElem?_cons_succ])
 have hUp:Up V1 W2:=hW2
 have lg1:ga<g1:=by omega
 have lg2:ga<g2:=by omega
 have hg21:g2≠g1:=fun e=>hg12 e.symm
 refine forgetW (fun wr=>Up w wr∧Box wr w.heap.size #[.slice a n c,.int .i64 home] 25∧Box wr (w.heap.size+1) #[.int .i64 (d.l.1),.int .i64 (d.l.2),.int .i64 (d.h.1),.int .i64 (d.h.2),.int .i64 (d.g)] 33∧Box wr (w.heap.size+1+1) #[.int .i64 (x0),.int .i64 (x1),.int .i64 (y0),.int .i64 (y1),.int .i64 (u0),.int .i64 (u1),.int .i64 (v0),.int .i64 (v1)] 69∧Box wr (w.heap.size+1+1+1) #[.int .i64 (0),.int .i64 (0),.int .i64 (0),.int .i64 (0),.int .i64 (0),.int .i64 (0),.int .i64 (0),.int .i64 (0)] 69∧Box wr ga #[.int .i64 (a0),.int .i64 (a1),.int .i64 (a2),.int .i64 (a3)] 61∧Box wr g1 #[.int .i64 (0),.int .i64 (0)] 31∧Box wr g2 #[.int .i64 (0),.int .i64 (0)] 31) ⟨(HB1.out.1).trans hUp,(HB1.out.2.1).up hUp,(HB1.out.2.2.1).up hUp,(HB1.out.2.2.2.1).up hUp,(HB1.out.2.2.2.2.1).up hUp,(HB1.out.2.2.2.2.2).up hUp,z1,z2⟩ ?_
 clear HB1 w0 w1 lw dd0 dd1 dd2 dd3 dd4 ldd b0 b1 b2 b3 b4 b5 b6 b7 lb z0 z1 z2 z3 z4 z5 z6 z7 lz fzz0 fzz1 fzz2 fzz3 fzz4 fzz5 fzz6 fzz7 k0 k1 k2 k3 lk
 clear hUp
 rintro V2 ⟨hu,b0,b1,b2,b3,b4,b5,b6⟩
 have HB2:=hide (And.intro hu (And.intro b0 (And.intro b1 (And.intro b2 (And.intro b3 (And.intro b4 (And.intro b5 b6)))))))
 clear hu b0 b1 b2 b3 b4 b5 b6
 obtain ⟨w0,w1⟩:=(HB2.out.2.1).c2
 have lw:=(HB2.out.2.1).lt
 obtain ⟨dd0,dd1,dd2,dd3,dd4⟩:=(HB2.out.2.2.1).c5
 have ldd:=(HB2.out.2.2.1).lt
 obtain ⟨b0,b1,b2,b3,b4,b5,b6,b7⟩:=(HB2.out.2.2.2.1).c8
 have lb:=(HB2.out.2.2.2.1).lt
 obtain ⟨z0,z1,z2,z3,z4,z5,z6,z7⟩:=(HB2.out.2.2.2.2.1).c8
 have lz:=(HB2.out.2.2.2.2.1).lt
 obtain ⟨fzz0,fzz1,fzz2,fzz3,fzz4,fzz5,fzz6,fzz7⟩:=(HB2.out.2.2.2.2.1).f8
 obtain ⟨k0,k1,k2,k3⟩:=(HB2.out.2.2.2.2.2.1).c4
 have lk:=(HB2.out.2.2.2.2.2.1).lt
 obtain ⟨r0,r1⟩:=(HB2.out.2.2.2.2.2.2.1).c2
 have lr:=(HB2.out.2.2.2.2.2.2.1).lt
 obtain ⟨fzr0,fzr1⟩:=(HB2.out.2.2.2.2.2.2.1).f2
 obtain ⟨s0,s1⟩:=(HB2.out.2.2.2.2.2.2.2).c2
 have ls:=(HB2.out.2.2.2.2.2.2.2).lt
 obtain ⟨fzs0,fzs1⟩:=(HB2.out.2.2.2.2.2.2.2).f2
 clear hW2 z1 z2 hg1 hg2
 go_wp2_with fail
 refine forgetW (fun wr=>Up w wr∧Box wr w.heap.size #[.slice a n c,.int .i64 home] 25∧Box wr (w.heap.size+1) #[.int .i64 (d.l.1),.int .i64 (d.l.2),.int .i64 (d.h.1),.int .i64 (d.h.2),.int .i64 (d.g)] 33∧Box wr (w.heap.size+1+1) #[.int .i64 (x0),.int .i64 (x1),.int .i64 (y0),.int .i64 (y1),.int .i64 (u0),.int .i64 (u1),.int .i64 (v0),.int .i64 (v1)] 69∧Box wr (w.heap.size+1+1+1) #[.int .i64 (0),.int .i64 (0),.int .i64 (0),.int .i64 (0),.int .i64 (0),.int .i64 (0),.int .i64 (0),.int .i64 (0)] 69∧Box wr g1 #[.int .i64 (p0),.int .i64 (p1)] 31∧Box wr g2 #[.int .i64 (q0),.int .i64 (q1)] 31) ⟨(Up.viz HB2.out.1),(Box.viz HB2.out.2.1),(Box.viz HB2.out.2.2.1),(Box.viz HB2.out.2.2.2.1),(Box.viz HB2.out.2.2.2.2.1),(by (repeat (first|with_reducible apply Box.ext|with_reducible apply Box.alloc|with_reducible apply Box.drew));exact ((((HB2.out.2.2.2.2.2.2.1).set 0 (.int .i64 p0)).set 1 (.int .i64 p1)).other hg12 _ _).other hg12 _ _),(by (repeat (first|with_reducible apply Box.ext|with_reducible apply Box.alloc|with_reducible apply Box.drew));exact ((((HB2.out.2.2.2.2.2.2.2).other hg21 _ _).other hg21 _ _).set 0 (.int .i64 q0)).set 1 (.int .i64 q1))⟩ ?_
 clear HB2 w0 w1 lw dd0 dd1 dd2 dd3 dd4 ldd b0 b1 b2 b3 b4 b5 b6 b7 lb z0 z1 z2 z3 z4 z5 z6 z7 lz fzz0 fzz1 fzz2 fzz3 fzz4 fzz5 fzz6 fzz7 k0 k1 k2 k3 lk r0 r1 lr fzr0 fzr1 s0 s1 ls fzs0 fzs1
 rintro V3 ⟨hu,b0,b1,b2,b3,b4,b5⟩
 have HB3:=hide (And.intro hu (And.intro b0 (And.intro b1 (And.intro b2 (And.intro b3 (And.intro b4 b5))))))
 clear hu b0 b1 b2 b3 b4 b5
 obtain ⟨w0,w1⟩:=(HB3.out.2.1).c2
 have lw:=(HB3.out.2.1).lt
 obtain ⟨dd0,dd1,dd2,dd3,dd4⟩:=(HB3.out.2.2.1).c5
 have ldd:=(HB3.out.2.2.1).lt
 obtain ⟨b0,b1,b2,b3,b4,b5,b6,b7⟩:=(HB3.out.2.2.2.1).c8
 have lb:=(HB3.out.2.2.2.1).lt
 obtain ⟨z0,z1,z2,z3,z4,z5,z6,z7⟩:=(HB3.out.2.2.2.2.1).c8
 have lz:=(HB3.out.2.2.2.2.1).lt
 obtain ⟨fzz0,fzz1,fzz2,fzz3,fzz4,fzz5,fzz6,fzz7⟩:=(HB3.out.2.2.2.2.1).f8
 obtain ⟨r0,r1⟩:=(HB3.out.2.2.2.2.2.1).c2
 have lr:=(HB3.out.2.2.2.2.2.1).lt
 obtain ⟨fzr0,fzr1⟩:=(HB3.out.2.2.2.2.2.1).f2
 obtain ⟨s0,s1⟩:=(HB3.out.2.2.2.2.2.2).c2
 have ls:=(HB3.out.2.2.2.2.2.2).lt
 obtain ⟨fzs0,fzs1⟩:=(HB3.out.2.2.2.2.2.2).f2
 refine wp_region_float (al:=[(11,14,#[.int .i64 (0),.int .i64 (0),.int .i64 (0),.int .i64 (0),.int .i64 (0),.int .i64 (0),.int .i64 (0),.int .i64 (0)],69)]) (mv:=fun _=>false) [12] [0,1,2,3,4,5,6,7,8,9,10] (by kernel_rfl) (by kernel_rfl) (makes1 ⟨_,rfl,rfl,fun _=>rfl,fun _ _=>by simp [go_sem]⟩) (cls_ext _) (by first|exact drew_in2 _ _|exact drew_in _) (Nat.le_refl _) ?_
 simp only [withOps,List.filterMap_cons,List.filterMap_nil,List.getElem?_toArray,List.getElem?_cons_zero,List.getElem?_cons_succ,Option.map_some]
 (repeat (first|(apply walkF_pure (base:=fun p:Ext=>ext _ p) rfl rfl rfl (by kernel_rfl);· (intro px K hK;go_big_quiet_op;first|exact hK|(apply Exists.intro;refine ⟨fun _=>?_,?_⟩;(· ((first|(go_at_call 171;with_reducible exact Gives.inFloat (HX.out _))|(go_at_call 171;with_reducible exact Gives.inFloat (HY.out _)))));exact hK)))|(apply walkF_skip rfl;simp only [Act.put,List.setIfInBounds_toArray,List.set_cons_zero,List.set_cons_succ])))
 refine walkF_nil (end1 (fun g3 W3 hg3 hW3 z3=>?_))
 simp only [Act.put,List.setIfInBounds_toArray,List.set_cons_zero,List.set_cons_succ]
 (try simp only [List.filterMap_cons,List.filterMap_nil,List.getElem?_toArray,List.getElem?_cons_zero,List.getElem?_cons_succ])
 have hUp:Up V3 W3:=hW3
 have lg3:g1<g3:=by omega
 have lg4:g2<g3:=by omega
 refine forgetW (fun wr=>Up w wr∧Box wr w.heap.size #[.slice a n c,.int .i64 home] 25∧Box wr (w.heap.size+1) #[.int .i64 (d.l.1),.int .i64 (d.l.2),.int .i64 (d.h.1),.int .i64 (d.h.2),.int .i64 (d.g)] 33∧Box wr (w.heap.size+1+1) #[.int .i64 (x0),.int .i64 (x1),.int .i64 (y0),.int .i64 (y1),.int .i64 (u0),.int .i64 (u1),.int .i64 (v0),.int .i64 (v1)] 69∧Box wr (w.heap.size+1+1+1) #[.int .i64 (0),.int .i64 (0),.int .i64 (0),.int .i64 (0),.int .i64 (0),.int .i64 (0),.int .i64 (0),.int .i64 (0)] 69∧Box wr g1 #[.int .i64 (p0),.int .i64 (p1)] 31∧Box wr g2 #[.int .i64 (q0),.int .i64 (q1)] 31∧Box wr g3 #[.int .i64 (0),.int .i64 (0),.int .i64 (0),.int .i64 (0),.int .i64 (0),.int .i64 (0),.int .i64 (0),.int .i64 (0)] 69) ⟨(HB3.out.1).trans hUp,(HB3.out.2.1).up hUp,(HB3.out.2.2.1).up hUp,(HB3.out.2.2.2.1).up hUp,(HB3.out.2.2.2.2.1).up hUp,(HB3.out.2.2.2.2.2.1).up hUp,(HB3.out.2.2.2.2.2.2).up hUp,z3⟩ ?_
 clear HB3 w0 w1 lw dd0 dd1 dd2 dd3 dd4 ldd b0 b1 b2 b3 b4 b5 b6 b7 lb z0 z1 z2 z3 z4 z5 z6 z7 lz fzz0 fzz1 fzz2 fzz3 fzz4 fzz5 fzz6 fzz7 r0 r1 lr fzr0 fzr1 s0 s1 ls fzs0 fzs1
 clear hUp
 rintro V4 ⟨hu,b0,b1,b2,b3,b4,b5,b6⟩
 have HB4:=hide (And.intro hu (And.intro b0 (And.intro b1 (And.intro b2 (And.intro b3 (And.intro b4 (And.intro b5 b6)))))))
 clear hu b0 b1 b2 b3 b4 b5 b6
 obtain ⟨w0,w1⟩:=(HB4.out.2.1).c2
 have lw:=(HB4.out.2.1).lt
 obtain ⟨dd0,dd1,dd2,dd3,dd4⟩:=(HB4.out.2.2.1).c5
 have ldd:=(HB4.out.2.2.1).lt
 obtain ⟨b0,b1,b2,b3,b4,b5,b6,b7⟩:=(HB4.out.2.2.2.1).c8
 have lb:=(HB4.out.2.2.2.1).lt
 obtain ⟨z0,z1,z2,z3,z4,z5,z6,z7⟩:=(HB4.out.2.2.2.2.1).c8
 have lz:=(HB4.out.2.2.2.2.1).lt
 obtain ⟨fzz0,fzz1,fzz2,fzz3,fzz4,fzz5,fzz6,fzz7⟩:=(HB4.out.2.2.2.2.1).f8
 obtain ⟨r0,r1⟩:=(HB4.out.2.2.2.2.2.1).c2
 have lr:=(HB4.out.2.2.2.2.2.1).lt
 obtain ⟨fzr0,fzr1⟩:=(HB4.out.2.2.2.2.2.1).f2
 obtain ⟨s0,s1⟩:=(HB4.out.2.2.2.2.2.2.1).c2
 have ls:=(HB4.out.2.2.2.2.2.2.1).lt
 obtain ⟨fzs0,fzs1⟩:=(HB4.out.2.2.2.2.2.2.1).f2
 obtain ⟨o0,o1,o2,o3,o4,o5,o6,o7⟩:=(HB4.out.2.2.2.2.2.2.2).c8
 have lo:=(HB4.out.2.2.2.2.2.2.2).lt
 obtain ⟨fzo0,fzo1,fzo2,fzo3,fzo4,fzo5,fzo6,fzo7⟩:=(HB4.out.2.2.2.2.2.2.2).f8
 clear hW3 z3 hg3
 go_wp2_with fail
 refine forgetW (fun wr=>Up w wr∧Box wr w.heap.size #[.slice a n c,.int .i64 home] 25∧Box wr (w.heap.size+1) #[.int .i64 (d.l.1),.int .i64 (d.l.2),.int .i64 (d.h.1),.int .i64 (d.h.2),.int .i64 (d.g)] 33∧Box wr (w.heap.size+1+1) #[.int .i64 (x0),.int .i64 (x1),.int .i64 (y0),.int .i64 (y1),.int .i64 (u0),.int .i64 (u1),.int .i64 (v0),.int .i64 (v1)] 69∧Box wr (w.heap.size+1+1+1) #[.int .i64 (0),.int .i64 (0),.int .i64 (0),.int .i64 (0),.int .i64 (0),.int .i64 (0),.int .i64 (0),.int .i64 (0)] 69∧Box wr g3 #[.int .i64 (m0),.int .i64 (m1),.int .i64 (n0),.int .i64 (n1),.int .i64 (p0),.int .i64 (p1),.int .i64 (q0),.int .i64 (q1)] 69) ⟨(Up.viz HB4.out.1),(Box.viz HB4.out.2.1),(Box.viz HB4.out.2.2.1),(Box.viz HB4.out.2.2.2.1),(Box.viz HB4.out.2.2.2.2.1),(by (repeat (first|with_reducible apply Box.ext|with_reducible apply Box.alloc|with_reducible apply Box.drew));exact ((((((((HB4.out.2.2.2.2.2.2.2).set 0 (.int .i64 m0)).set 1 (.int .i64 m1)).set 2 (.int .i64 n0)).set 3 (.int .i64 n1)).set 4 (.int .i64 p0)).set 5 (.int .i64 p1)).set 6 (.int .i64 q0)).set 7 (.int .i64 q1))⟩ ?_
 clear HB4 w0 w1 lw dd0 dd1 dd2 dd3 dd4 ldd b0 b1 b2 b3 b4 b5 b6 b7 lb z0 z1 z2 z3 z4 z5 z6 z7 lz fzz0 fzz1 fzz2 fzz3 fzz4 fzz5 fzz6 fzz7 r0 r1 lr fzr0 fzr1 s0 s1 ls fzs0 fzs1 o0 o1 o2 o3 o4 o5 o6 o7 lo fzo0 fzo1 fzo2 fzo3 fzo4 fzo5 fzo6 fzo7
 rintro V5 ⟨hu,b0,b1,b2,b3,b4⟩
 have HB5:=hide (And.intro hu (And.intro b0 (And.intro b1 (And.intro b2 (And.intro b3 b4)))))
 clear hu b0 b1 b2 b3 b4
 obtain ⟨w0,w1⟩:=(HB5.out.2.1).c2
 have lw:=(HB5.out.2.1).lt
 obtain ⟨dd0,dd1,dd2,dd3,dd4⟩:=(HB5.out.2.2.1).c5
 have ldd:=(HB5.out.2.2.1).lt
 obtain ⟨b0,b1,b2,b3,b4,b5,b6,b7⟩:=(HB5.out.2.2.2.1).c8
 have lb:=(HB5.out.2.2.2.1).lt
 obtain ⟨z0,z1,z2,z3,z4,z5,z6,z7⟩:=(HB5.out.2.2.2.2.1).c8
 have lz:=(HB5.out.2.2.2.2.1).lt
 obtain ⟨fzz0,fzz1,fzz2,fzz3,fzz4,fzz5,fzz6,fzz7⟩:=(HB5.out.2.2.2.2.1).f8
 obtain ⟨o0,o1,o2,o3,o4,o5,o6,o7⟩:=(HB5.out.2.2.2.2.2).c8
 have lo:=(HB5.out.2.2.2.2.2).lt
 obtain ⟨fzo0,fzo1,fzo2,fzo3,fzo4,fzo5,fzo6,fzo7⟩:=(HB5.out.2.2.2.2.2).f8
 refine wp_region_floatz (al:=[]) (mv:=fun _=>false) 3 [4,5] [0,1,2,3] (by kernel_rfl) (by kernel_rfl) rfl (fun _=>rfl) (fun _ _ _ _ h=>h) makes0 (cls_ext _) (by first|exact drew_in2 _ _|exact drew_in _) (Nat.le_refl _) ?_
 simp only [withOps,List.filterMap_cons,List.filterMap_nil,List.getElem?_toArray,List.getElem?_cons_zero,List.getElem?_cons_succ,Option.map_some]
 (repeat (first|(apply walkF_pure (base:=fun p:Ext=>ext _ p) rfl rfl rfl (by kernel_rfl);· (intro px K hK;go_big_quiet_op;first|exact hK|(apply Exists.intro;refine ⟨fun _=>?_,?_⟩;(· ((go_at_call 170;with_reducible exact Gives.inFloat (HC.out _))));exact hK)))|(apply walkF_skip rfl;simp only [Act.put,List.setIfInBounds_toArray,List.set_cons_zero,List.set_cons_succ])))
 refine walkF_lazy (.bool (E==0)) rfl rfl (fun _=>by simp [go_sem]) ?_
 simp only [Act.put,List.setIfInBounds_toArray,List.set_cons_zero,List.set_cons_succ]
 refine walkF_nil (end0 (fun W4 hW4=>?_))
 (try simp only [List.filterMap_cons,List.filterMap_nil,List.getElem?_toArray,List.getElem?_cons_zero,List.getElem?_cons_succ])
 have hUp:Up V5 W4:=hW4
 refine forgetW (fun wr=>Up w wr∧Box wr w.heap.size #[.slice a n c,.int .i64 home] 25∧Box wr (w.heap.size+1) #[.int .i64 (d.l.1),.int .i64 (d.l.2),.int .i64 (d.h.1),.int .i64 (d.h.2),.int .i64 (d.g)] 33∧Box wr (w.heap.size+1+1) #[.int .i64 (x0),.int .i64 (x1),.int .i64 (y0),.int .i64 (y1),.int .i64 (u0),.int .i64 (u1),.int .i64 (v0),.int .i64 (v1)] 69∧Box wr (w.heap.size+1+1+1) #[.int .i64 (0),.int .i64 (0),.int .i64 (0),.int .i64 (0),.int .i64 (0),.int .i64 (0),.int .i64 (0),.int .i64 (0)] 69∧Box wr g3 #[.int .i64 (m0),.int .i64 (m1),.int .i64 (n0),.int .i64 (n1),.int .i64 (p0),.int .i64 (p1),.int .i64 (q0),.int .i64 (q1)] 69) ⟨(HB5.out.1).trans hUp,(HB5.out.2.1).up hUp,(HB5.out.2.2.1).up hUp,(HB5.out.2.2.2.1).up hUp,(HB5.out.2.2.2.2.1).up hUp,(HB5.out.2.2.2.2.2).up hUp⟩ ?_
 clear HB5 w0 w1 lw dd0 dd1 dd2 dd3 dd4 ldd b0 b1 b2 b3 b4 b5 b6 b7 lb z0 z1 z2 z3 z4 z5 z6 z7 lz fzz0 fzz1 fzz2 fzz3 fzz4 fzz5 fzz6 fzz7 o0 o1 o2 o3 o4 o5 o6 o7 lo fzo0 fzo1 fzo2 fzo3 fzo4 fzo5 fzo6 fzo7
 clear hUp
 rintro V6 ⟨hu,b0,b1,b2,b3,b4⟩
 have HB6:=hide (And.intro hu (And.intro b0 (And.intro b1 (And.intro b2 (And.intro b3 b4)))))
 clear hu b0 b1 b2 b3 b4
 obtain ⟨w0,w1⟩:=(HB6.out.2.1).c2
 have lw:=(HB6.out.2.1).lt
 obtain ⟨dd0,dd1,dd2,dd3,dd4⟩:=(HB6.out.2.2.1).c5
 have ldd:=(HB6.out.2.2.1).lt
 obtain ⟨b0,b1,b2,b3,b4,b5,b6,b7⟩:=(HB6.out.2.2.2.1).c8
 have lb:=(HB6.out.2.2.2.1).lt
 obtain ⟨z0,z1,z2,z3,z4,z5,z6,z7⟩:=(HB6.out.2.2.2.2.1).c8
 have lz:=(HB6.out.2.2.2.2.1).lt
 obtain ⟨fzz0,fzz1,fzz2,fzz3,fzz4,fzz5,fzz6,fzz7⟩:=(HB6.out.2.2.2.2.1).f8
 obtain ⟨o0,o1,o2,o3,o4,o5,o6,o7⟩:=(HB6.out.2.2.2.2.2).c8
 have lo:=(HB6.out.2.2.2.2.2).lt
 obtain ⟨fzo0,fzo1,fzo2,fzo3,fzo4,fzo5,fzo6,fzo7⟩:=(HB6.out.2.2.2.2.2).f8
 clear hW4
 have n3:g3≠w.heap.size+1+1+1:=by omega
 go_wp2
 refine forgetW (fun WF=>Up w WF∧Box WF (w.heap.size+1+1+1) #[.int .i64 (m0),.int .i64 (m1),.int .i64 (n0),.int .i64 (n1),.int .i64 (p0),.int .i64 (p1),.int .i64 (q0),.int .i64 (q1)] 69) ⟨(Up.viz HB6.out.1),(by (repeat (first|with_reducible apply Box.ext|with_reducible apply Box.alloc|with_reducible apply Box.drew));exact ((((((((HB6.out.2.2.2.2.1).set 0 (.int .i64 m0)).set 1 (.int .i64 m1)).set 2 (.int .i64 n0)).set 3 (.int .i64 n1)).set 4 (.int .i64 p0)).set 5 (.int .i64 p1)).set 6 (.int .i64 q0)).set 7 (.int .i64 q1))⟩ ?_
 rintro WF ⟨huF,hbF⟩
 obtain ⟨e0,e1,e2,e3,e4,e5,e6,e7⟩:=hbF.c8
 (refine bodyPost_give huF rfl ⟨_,(by simp [results,Tryz.results131,go_sem,e0,e1,e2,e3,e4,e5,e6,e7];rfl),?_⟩)
 rfl
theorem stopA {P:Program} {ops:Array Oper} {Q:Exit→Act→World→Prop} {o:Oper} {rest:List Oper} {a:Act} {w:World} {ar:Array Operand} {ts:Array TypeId} (_:o.op=.call { callee:=.builtin .append,args:=ar,argTypes:=ts }) (h:Hid (wpList P ops Q (o::rest) a w)):wpList P ops Q (o::rest) a w:=h.out
end Go.Proofs.YteafglginnonnaaGreat
