/- Several texts in one. -/
import Derived.Test.YteafglginnonnaaGreatStore
import Derived.Test.YteafglginnonnaaGreatRingF
/- Package force: distances from a body; the pull in a direction. Conditions: a radius up to its limit. -/
set_option linter.unusedVariables false
set_option linter.unusedSimpArgs false
namespace Go.Proofs.YteafglginnonnaaGreat
set_option maxHeartbeats 4000000
set_option maxRecDepth 100000
open Go.RowKit Go.Shelf
theorem fadd2 (s1 s2:Sp) (h:checkE s1.1 s1.2=0) {w:World} {B:Nat} {T:TypeId} (hb:Box w B #[.int .i64 s1.1,.int .i64 s1.2,.int .i64 s2.1,.int .i64 s2.2] T) :
 Gives Tryz.prog 216 #[.slice (some ⟨B,0,none⟩) 2 2] w (.agg #[.int .i64 (addP s1 s2).1,.int .i64 (addP s1 s2).2]):=by
 have h2:=fadd_any w (Prs.two (a:=s1) (b:=s2) hb)
 have e:[s1,s2].foldl addP (0,0)=addP s1 s2:=by
  simp only [List.foldl_cons,List.foldl_nil]
  rw [addP_zero h]
 rw [e] at h2
 exact h2
theorem fdist_any (mu r:Int) (tv:Value) (p:Sp) (a:Ar) (r0:0≤r) (r1:r≤1048576) (w:World):Gives Tryz.prog 230 #[.agg #[.int .i64 mu,.int .i64 r,tv,.int .i64 p.1,.int .i64 p.2],.agg #[.int .i64 a.1,.int .i64 a.2.1,.int .i64 a.2.2.1,.int .i64 a.2.2.2]] w
 (.tuple #[.agg #[.int .i64 (sqP r (toP p a)).1,.int .i64 (sqP r (toP p a)).2],.agg #[.int .i64 (distP r (toP p a)).1,.int .i64 (distP r (toP p a)).2]]):=by
 have HT:=hide (fun W=>fto_any mu r tv p a W)
 have HE:=hide (fun W=>fedge_any mu r tv p.1 p.2 r0 r1 W)
 obtain ⟨v,hv⟩:∃ v,toP p a=v:=⟨_,rfl⟩
 rw [hv] at HT ⊢
 clear hv
 obtain ⟨p1,p2⟩:=p
 obtain ⟨a1,a2,a3,a4⟩:=a
 obtain ⟨v1,v2,v3,v4⟩:=v
 dsimp only at HT HE
 obtain ⟨E,hE⟩:∃ E,edgeV r=E:=⟨_,rfl⟩
 have HS:=hide hE
 rw [hE] at HE
 clear hE
 (unfold Gives;go_enter Tryz.func230,Tryz.ntmps230)
 go_wp2_with (go_at_call 231;refine (HT.out _).mono ?_;intro _)
 ((first | with_reducible refine wp_region_ext_tail2 3 (by kernel_rfl) (by kernel_rfl) ?_ | refine wp_region_ext_tail 3 (by kernel_rfl) (by kernel_rfl) ?_);simp only [List.length_cons,List.length_nil,Nat.reduceAdd,Nat.reduceSub,List.take_succ_cons,List.take_zero,List.drop_succ_cons,List.drop_zero];(repeat (go_big_quiet_step ((go_at_call 245;with_reducible exact Gives.inRegion (fsquare2 _ _ _)))));refine wpQuiet_nil ?_;intro _ hw';obtain ⟨_,hw''⟩:=hw';subst hw'')
 go_wp2_with (go_at_call 216;refine (fadd2 (squareP (v1,v2)) (squareP (v3,v4)) (squareP_check _) (Box.mk (by simp))).mono ?_;intro _)
 ((first | with_reducible refine wp_region_ext_tail2 1 (by kernel_rfl) (by kernel_rfl) ?_ | refine wp_region_ext_tail 1 (by kernel_rfl) (by kernel_rfl) ?_);simp only [List.length_cons,List.length_nil,Nat.reduceAdd,Nat.reduceSub,List.take_succ_cons,List.take_zero,List.drop_succ_cons,List.drop_zero];(repeat (go_big_quiet_step ((go_at_call 246;with_reducible exact Gives.inRegion (HE.out _)))));refine wpQuiet_nil ?_;intro _ hw';obtain ⟨_,hw''⟩:=hw';subst hw'')
 go_wp2_with (go_at_call 247;refine (roots_any _ _ _).mono ?_;intro _)
 refine forgetW (fun W=>Up w W∧Box W (w.heap.size+1+1) #[.int .i64 (sqP r ((v1,v2,v3,v4))).1,.int .i64 (sqP r ((v1,v2,v3,v4))).2] 31∧Box W (w.heap.size+1+1+1) #[.int .i64 (distP r ((v1,v2,v3,v4))).1,.int .i64 (distP r ((v1,v2,v3,v4))).2] 31) ⟨Up.go,?_,?_⟩ ?_
 · unfold sqP;rw [HS.out];exact Box.go
 · unfold distP rootsP sqP;rw [HS.out];exact Box.go
 rintro W ⟨hu,b1,b2⟩
 obtain ⟨c0,c1⟩:=b1.c2
 obtain ⟨c2,c3⟩:=b2.c2
 obtain ⟨f0,f1⟩:=b1.f2
 obtain ⟨f2,f3⟩:=b2.f2
 have l1:=b1.lt
 have l2:=b2.lt
 have HB:=hide (And.intro hu (And.intro b1 b2))
 clear hu b1 b2
 go_region
 all_goals go_wp2
 have q:=(((((HB.out.2.1.set 0 (.int .i64 (sqP r (v1,v2,v3,v4)).1)).set 1 (.int .i64 (sqP r (v1,v2,v3,v4)).2)).other (b':=w.heap.size+1+1+1) (by omega) 0 (.int .i64 (distP r (v1,v2,v3,v4)).1)).other (b':=w.heap.size+1+1+1) (by omega) 1 (.int .i64 (distP r (v1,v2,v3,v4)).2)).drew)
 have s:=(((((HB.out.2.2.other (b':=w.heap.size+1+1) (by omega) 0 (.int .i64 (sqP r (v1,v2,v3,v4)).1)).other (b':=w.heap.size+1+1) (by omega) 1 (.int .i64 (sqP r (v1,v2,v3,v4)).2)).set 0 (.int .i64 (distP r (v1,v2,v3,v4)).1)).set 1 (.int .i64 (distP r (v1,v2,v3,v4)).2)).drew)
 have q0:=q.cell 0 (v:=.int .i64 (sqP r (v1,v2,v3,v4)).1) rfl
 have q1:=q.cell 1 (v:=.int .i64 (sqP r (v1,v2,v3,v4)).2) rfl
 have s0:=s.cell 0 (v:=.int .i64 (distP r (v1,v2,v3,v4)).1) rfl
 have s1:=s.cell 1 (v:=.int .i64 (distP r (v1,v2,v3,v4)).2) rfl
 clear q s
 (refine bodyPost_give (Up.via HB.out.1) rfl ⟨_,(by simp [results,Tryz.results230,go_sem,q0,q1,s0,s1];rfl),?_⟩)
 rfl
theorem wp_via {c:Code} {P:Program} {K0:Act→World→Prop} {Q0:Exit→Act→World→Prop} {a:Act} {w:World} (R:Act→Act→World→Prop) (h1:∀ K:Act→World→Prop,Hid (∀ a' w',R a a' w'→K a' w')→c.wp P (Exit.then K Q0) a w)
 (h2:∀ a' w',R a a' w'→Exit.then K0 Q0 .normal a' w'):c.wp P (Exit.then K0 Q0) a w :=
 h1 K0 (hide h2)
def arrQ (m:Nat→Sp) (k:Nat):Array Value:=#[.int .i64 (if 0<k then (m 0).1 else 0),.int .i64 (if 0<k then (m 0).2 else 0),.int .i64 (if 1<k then (m 1).1 else 0),.int .i64 (if 1<k then (m 1).2 else 0),.int .i64 (if 2<k then (m 2).1 else 0),.int .i64 (if 2<k then (m 2).2 else 0),.int .i64 (if 3<k then (m 3).1 else 0),.int .i64 (if 3<k then (m 3).2 else 0)]
def mdQ (mu:Int) (x q:Sp) (k:Nat):Sp:=mdP mu (if k % 2=0 then x.1 else x.2) (if k / 2=0 then q.1 else q.2)
theorem fclamp_any (a b:Int) (w:World):Gives Tryz.prog 250 #[.agg #[.int .i64 a,.int .i64 b]] w (.agg #[.int .i64 (clampP (a,b)).1,.int .i64 (clampP (a,b)).2]):=by
 (unfold Gives;go_enter Tryz.func250,Tryz.ntmps250)
 go_wp2
 all_goals (refine bodyPost_give Up.go rfl ⟨_,(by simp [results,Tryz.results250,go_sem];rfl),?_⟩)
 all_goals rfl
theorem ftoward_any (mu r:Int) (tv:Value) (p1 p2:Int) (x q d:Sp) (w:World):Gives Tryz.prog 232 #[.agg #[.int .i64 mu,.int .i64 r,tv,.int .i64 p1,.int .i64 p2],.agg #[.int .i64 x.1,.int .i64 x.2],.agg #[.int .i64 q.1,.int .i64 q.2],.agg #[.int .i64 d.1,.int .i64 d.2]] w
 (.agg #[.int .i64 (towardP mu x q d).1,.int .i64 (towardP mu x q d).2]):=by
 obtain ⟨x1,x2⟩:=x
 obtain ⟨q1,q2⟩:=q
 obtain ⟨d1,d2⟩:=d
 (unfold Gives;go_enter Tryz.func232,Tryz.ntmps232)
 go_wp2
 refine wp_via (fun a a' W=>∃ g5 g6:Nat,a'={ a with tmps:=((((((((((((a.tmps.setIfInBounds 20 (.pointer (some ⟨w.heap.size+1,0,none⟩))).setIfInBounds 21 (.int .i64 x1)).setIfInBounds 22 (.pointer (some ⟨w.heap.size+1,1,none⟩))).setIfInBounds 23 (.int .i64 x2)).setIfInBounds 24 (.agg #[.int .i64 (x1),.int .i64 (x2)])).setIfInBounds 25 (.pointer (some ⟨w.heap.size+1+1,0,none⟩))).setIfInBounds 26 (.int .i64 q1)).setIfInBounds 27 (.pointer (some ⟨w.heap.size+1+1,1,none⟩))).setIfInBounds 28 (.int .i64 q2)).setIfInBounds 29 (.agg #[.int .i64 (q1),.int .i64 (q2)])).setIfInBounds 9 (.pointer (some ⟨g5,0,none⟩))).setIfInBounds 10 (.pointer (some ⟨g6,0,none⟩))) } ∧
  Up w W∧Box W w.heap.size #[.int .i64 mu,.int .i64 r,tv,.int .i64 p1,.int .i64 p2] 270∧Box W (w.heap.size+1+1+1) #[.int .i64 (d1),.int .i64 (d2)] 31∧Box W (w.heap.size+1+1+1+1) #[.int .i64 (0),.int .i64 (0)] 31∧Box W g5 #[.int .i64 (x1),.int .i64 (x2)] 290∧Box W g6 #[.int .i64 (q1),.int .i64 (q2)] 290∧w.heap.size+1+1+1+1<g5∧w.heap.size+1+1+1+1<g6) ?_ ?_
 rotate_left
 · rintro a' W ⟨g5,g6,rfl,hu,b0,b3,b4,b5,b6,g5n,g6n⟩
   simp only [List.setIfInBounds_toArray,List.set_cons_zero,List.set_cons_succ]
   obtain ⟨m,hm⟩:∃ m,mdQ mu (x1,x2) (q1,q2)=m:=⟨_,rfl⟩
   have b3c:=b3.cell 0 rfl
   have l0:=b0.lt
   have l3:=b3.lt
   have l4:=b4.lt
   have l5:=b5.lt
   have l6:=b6.lt
   have HB:=hide (And.intro hu (And.intro b0 (And.intro b3 (And.intro b4 (And.intro b5 (And.intro b6 trivial))))))
   have HM:=hide hm
   clear hu b0 b3 b4 b5 b6 hm
   go_wp2
   go_loopw [30] (fun s wr=>∃ k:Nat,k≤4∧s=.int .i64 k∧Up W wr∧Box wr W.heap.size (arrQ m k) 148) (fun s _=>4 - (intOf s).toNat)
   case atStart=>exact ⟨0,by omega,rfl,Up.go,Box.mk rfl⟩
   case round =>
    obtain ⟨k,hk,rfl,hur,hq⟩:=hrel
    have c0:=(HB.out.2.1.up hur).cell 0 rfl
    obtain ⟨c5,c5'⟩:=(HB.out.2.2.2.2.1.up hur).c2
    obtain ⟨c6,c6'⟩:=(HB.out.2.2.2.2.2.1.up hur).c2
    have hsz:=hur.below.size
    have hlq:=hq.lt
    by_cases hlt:k<4
    · have hk4:k=0∨k=1∨k=2∨k=3:=by omega
      rcases hk4 with rfl | rfl | rfl | rfl
      · have e:m 0=mdP mu x1 q1:=by rw [← HM.out];rfl
        have hq':Box wr W.heap.size (arrQ m 0) 148:=hq
        obtain ⟨fq0,fq1⟩:=hq.f2
        have zq0:=hq.cell 0 (v:=.int .i64 0) rfl
        have zq1:=hq.cell 1 (v:=.int .i64 0) rfl
        have HQ:=hide (And.intro hq hur)
        have hand:bits BinOp.and IntKind.i64 0 1=0:=by decide
        clear hq hq' hur hlt hk b3c
        by_cases he:(mulDivE mu x1 q1).2.2=0
        · have hm0:m 0=((mulDivE mu x1 q1).1,(mulDivE mu x1 q1).2.1):=by rw [e];unfold mdP;rw [if_pos he]
          have heb:((mulDivE mu x1 q1).2.2 != 0)=false:=by simp [he]
          have HE:=hide hm0
          clear he hm0 e
          go_wp2
          ((first | with_reducible refine wp_region_ext2 (by kernel_rfl) (by kernel_rfl) ?_ | refine wp_region_ext (by kernel_rfl) (by kernel_rfl) ?_);(repeat (go_big_quiet_step ((go_at_call 249;with_reducible exact Gives.inRegion (muldiv_any _ _ _ _)))));refine wpQuiet_nil ?_;intro _ hw';obtain ⟨_,hw''⟩:=hw';subst hw'')
          go_wp2
          refine ⟨⟨1,by omega,by go_num,(Up.via HQ.out.2),?_⟩,by simp [intOf]⟩
          have h:=fun p=>((HQ.out.1.set 0 (.int .i64 (mulDivE mu x1 q1).1)).set 1 (.int .i64 (mulDivE mu x1 q1).2.1)).ext p
          simpa [arrQ,HE.out] using h _
        · have heb:((mulDivE mu x1 q1).2.2 != 0)=true:=by simp [he]
          by_cases hn:x1<0
          · have hm0:m 0=(-1152921504606846976,-1152921504606846976):=by rw [e];unfold mdP;rw [if_neg he,if_pos hn]
            have HE:=hide hm0
            clear he hm0 e
            go_wp2
            ((first | with_reducible refine wp_region_ext2 (by kernel_rfl) (by kernel_rfl) ?_ | refine wp_region_ext (by kernel_rfl) (by kernel_rfl) ?_);(repeat (go_big_quiet_step ((go_at_call 249;with_reducible exact Gives.inRegion (muldiv_any _ _ _ _)))));refine wpQuiet_nil ?_;intro _ hw';obtain ⟨_,hw''⟩:=hw';subst hw'')
            go_wp2
            refine ⟨⟨1,by omega,by go_num,(Up.via HQ.out.2),?_⟩,by simp [intOf]⟩
            have h:=fun p=>((HQ.out.1.set 0 (.int .i64 (-1152921504606846976))).set 1 (.int .i64 (-1152921504606846976))).ext p
            simpa [arrQ,HE.out] using h _
          · have hm0:m 0=(1152921504606846976,1152921504606846976):=by rw [e];unfold mdP;rw [if_neg he,if_neg hn]
            have HE:=hide hm0
            clear he hm0 e
            go_wp2
            ((first | with_reducible refine wp_region_ext2 (by kernel_rfl) (by kernel_rfl) ?_ | refine wp_region_ext (by kernel_rfl) (by kernel_rfl) ?_);(repeat (go_big_quiet_step ((go_at_call 249;with_reducible exact Gives.inRegion (muldiv_any _ _ _ _)))));refine wpQuiet_nil ?_;intro _ hw';obtain ⟨_,hw''⟩:=hw';subst hw'')
            go_wp2
            refine ⟨⟨1,by omega,by go_num,(Up.via HQ.out.2),?_⟩,by simp [intOf]⟩
            have h:=fun p=>((HQ.out.1.set 0 (.int .i64 1152921504606846976)).set 1 (.int .i64 1152921504606846976)).ext p
            simpa [arrQ,HE.out] using h _
      · have e:m 1=mdP mu x2 q1:=by rw [← HM.out];rfl
        have hq':Box wr W.heap.size (arrQ m 1) 148:=hq
        have fq0:=hq.frozen 2
        have fq1:=hq.frozen 3
        have zq0:=hq.cell 2 (v:=.int .i64 0) rfl
        have zq1:=hq.cell 3 (v:=.int .i64 0) rfl
        have HQ:=hide (And.intro hq hur)
        have hand:bits BinOp.and IntKind.i64 1 1=1:=by decide
        clear hq hq' hur hlt hk b3c
        by_cases he:(mulDivE mu x2 q1).2.2=0
        · have hm0:m 1=((mulDivE mu x2 q1).1,(mulDivE mu x2 q1).2.1):=by rw [e];unfold mdP;rw [if_pos he]
          have heb:((mulDivE mu x2 q1).2.2 != 0)=false:=by simp [he]
          have HE:=hide hm0
          clear he hm0 e
          go_wp2
          ((first | with_reducible refine wp_region_ext2 (by kernel_rfl) (by kernel_rfl) ?_ | refine wp_region_ext (by kernel_rfl) (by kernel_rfl) ?_);(repeat (go_big_quiet_step ((go_at_call 249;with_reducible exact Gives.inRegion (muldiv_any _ _ _ _)))));refine wpQuiet_nil ?_;intro _ hw';obtain ⟨_,hw''⟩:=hw';subst hw'')
          go_wp2
          refine ⟨⟨2,by omega,by go_num,(Up.via HQ.out.2),?_⟩,by simp [intOf]⟩
          have h:=fun p=>((HQ.out.1.set 2 (.int .i64 (mulDivE mu x2 q1).1)).set 3 (.int .i64 (mulDivE mu x2 q1).2.1)).ext p
          simpa [arrQ,HE.out] using h _
        · have heb:((mulDivE mu x2 q1).2.2 != 0)=true:=by simp [he]
          by_cases hn:x2<0
          · have hm0:m 1=(-1152921504606846976,-1152921504606846976):=by rw [e];unfold mdP;rw [if_neg he,if_pos hn]
            have HE:=hide hm0
            clear he hm0 e
            go_wp2
            ((first | with_reducible refine wp_region_ext2 (by kernel_rfl) (by kernel_rfl) ?_ | refine wp_region_ext (by kernel_rfl) (by kernel_rfl) ?_);(repeat (go_big_quiet_step ((go_at_call 249;with_reducible exact Gives.inRegion (muldiv_any _ _ _ _)))));refine wpQuiet_nil ?_;intro _ hw';obtain ⟨_,hw''⟩:=hw';subst hw'')
            go_wp2
            refine ⟨⟨2,by omega,by go_num,(Up.via HQ.out.2),?_⟩,by simp [intOf]⟩
            have h:=fun p=>((HQ.out.1.set 2 (.int .i64 (-1152921504606846976))).set 3 (.int .i64 (-1152921504606846976))).ext p
            simpa [arrQ,HE.out] using h _
          · have hm0:m 1=(1152921504606846976,1152921504606846976):=by rw [e];unfold mdP;rw [if_neg he,if_neg hn]
            have HE:=hide hm0
            clear he hm0 e
            go_wp2
            ((first | with_reducible refine wp_region_ext2 (by kernel_rfl) (by kernel_rfl) ?_ | refine wp_region_ext (by kernel_rfl) (by kernel_rfl) ?_);(repeat (go_big_quiet_step ((go_at_call 249;with_reducible exact Gives.inRegion (muldiv_any _ _ _ _)))));refine wpQuiet_nil ?_;intro _ hw';obtain ⟨_,hw''⟩:=hw';subst hw'')
            go_wp2
            refine ⟨⟨2,by omega,by go_num,(Up.via HQ.out.2),?_⟩,by simp [intOf]⟩
            have h:=fun p=>((HQ.out.1.set 2 (.int .i64 1152921504606846976)).set 3 (.int .i64 1152921504606846976)).ext p
            simpa [arrQ,HE.out] using h _
      · have e:m 2=mdP mu x1 q2:=by rw [← HM.out];rfl
        have hq':Box wr W.heap.size (arrQ m 2) 148:=hq
        have fq0:=hq.frozen 4
        have fq1:=hq.frozen 5
        have zq0:=hq.cell 4 (v:=.int .i64 0) rfl
        have zq1:=hq.cell 5 (v:=.int .i64 0) rfl
        have HQ:=hide (And.intro hq hur)
        have hand:bits BinOp.and IntKind.i64 2 1=0:=by decide
        clear hq hq' hur hlt hk b3c
        by_cases he:(mulDivE mu x1 q2).2.2=0
        · have hm0:m 2=((mulDivE mu x1 q2).1,(mulDivE mu x1 q2).2.1):=by rw [e];unfold mdP;rw [if_pos he]
          have heb:((mulDivE mu x1 q2).2.2 != 0)=false:=by simp [he]
          have HE:=hide hm0
          clear he hm0 e
          go_wp2
          ((first | with_reducible refine wp_region_ext2 (by kernel_rfl) (by kernel_rfl) ?_ | refine wp_region_ext (by kernel_rfl) (by kernel_rfl) ?_);(repeat (go_big_quiet_step ((go_at_call 249;with_reducible exact Gives.inRegion (muldiv_any _ _ _ _)))));refine wpQuiet_nil ?_;intro _ hw';obtain ⟨_,hw''⟩:=hw';subst hw'')
          go_wp2
          refine ⟨⟨3,by omega,by go_num,(Up.via HQ.out.2),?_⟩,by simp [intOf]⟩
          have h:=fun p=>((HQ.out.1.set 4 (.int .i64 (mulDivE mu x1 q2).1)).set 5 (.int .i64 (mulDivE mu x1 q2).2.1)).ext p
          simpa [arrQ,HE.out] using h _
        · have heb:((mulDivE mu x1 q2).2.2 != 0)=true:=by simp [he]
          by_cases hn:x1<0
          · have hm0:m 2=(-1152921504606846976,-1152921504606846976):=by rw [e];unfold mdP;rw [if_neg he,if_pos hn]
            have HE:=hide hm0
            clear he hm0 e
            go_wp2
            ((first | with_reducible refine wp_region_ext2 (by kernel_rfl) (by kernel_rfl) ?_ | refine wp_region_ext (by kernel_rfl) (by kernel_rfl) ?_);(repeat (go_big_quiet_step ((go_at_call 249;with_reducible exact Gives.inRegion (muldiv_any _ _ _ _)))));refine wpQuiet_nil ?_;intro _ hw';obtain ⟨_,hw''⟩:=hw';subst hw'')
            go_wp2
            refine ⟨⟨3,by omega,by go_num,(Up.via HQ.out.2),?_⟩,by simp [intOf]⟩
            have h:=fun p=>((HQ.out.1.set 4 (.int .i64 (-1152921504606846976))).set 5 (.int .i64 (-1152921504606846976))).ext p
            simpa [arrQ,HE.out] using h _
          · have hm0:m 2=(1152921504606846976,1152921504606846976):=by rw [e];unfold mdP;rw [if_neg he,if_neg hn]
            have HE:=hide hm0
            clear he hm0 e
            go_wp2
            ((first | with_reducible refine wp_region_ext2 (by kernel_rfl) (by kernel_rfl) ?_ | refine wp_region_ext (by kernel_rfl) (by kernel_rfl) ?_);(repeat (go_big_quiet_step ((go_at_call 249;with_reducible exact Gives.inRegion (muldiv_any _ _ _ _)))));refine wpQuiet_nil ?_;intro _ hw';obtain ⟨_,hw''⟩:=hw';subst hw'')
            go_wp2
            refine ⟨⟨3,by omega,by go_num,(Up.via HQ.out.2),?_⟩,by simp [intOf]⟩
            have h:=fun p=>((HQ.out.1.set 4 (.int .i64 1152921504606846976)).set 5 (.int .i64 1152921504606846976)).ext p
            simpa [arrQ,HE.out] using h _
      · have e:m 3=mdP mu x2 q2:=by rw [← HM.out];rfl
        have hq':Box wr W.heap.size (arrQ m 3) 148:=hq
        have fq0:=hq.frozen 6
        have fq1:=hq.frozen 7
        have zq0:=hq.cell 6 (v:=.int .i64 0) rfl
        have zq1:=hq.cell 7 (v:=.int .i64 0) rfl
        have HQ:=hide (And.intro hq hur)
        have hand:bits BinOp.and IntKind.i64 3 1=1:=by decide
        clear hq hq' hur hlt hk b3c
        by_cases he:(mulDivE mu x2 q2).2.2=0
        · have hm0:m 3=((mulDivE mu x2 q2).1,(mulDivE mu x2 q2).2.1):=by rw [e];unfold mdP;rw [if_pos he]
          have heb:((mulDivE mu x2 q2).2.2 != 0)=false:=by simp [he]
          have HE:=hide hm0
          clear he hm0 e
          go_wp2
          ((first | with_reducible refine wp_region_ext2 (by kernel_rfl) (by kernel_rfl) ?_ | refine wp_region_ext (by kernel_rfl) (by kernel_rfl) ?_);(repeat (go_big_quiet_step ((go_at_call 249;with_reducible exact Gives.inRegion (muldiv_any _ _ _ _)))));refine wpQuiet_nil ?_;intro _ hw';obtain ⟨_,hw''⟩:=hw';subst hw'')
          go_wp2
          refine ⟨⟨4,by omega,by go_num,(Up.via HQ.out.2),?_⟩,by simp [intOf]⟩
          have h:=fun p=>((HQ.out.1.set 6 (.int .i64 (mulDivE mu x2 q2).1)).set 7 (.int .i64 (mulDivE mu x2 q2).2.1)).ext p
          simpa [arrQ,HE.out] using h _
        · have heb:((mulDivE mu x2 q2).2.2 != 0)=true:=by simp [he]
          by_cases hn:x2<0
          · have hm0:m 3=(-1152921504606846976,-1152921504606846976):=by rw [e];unfold mdP;rw [if_neg he,if_pos hn]
            have HE:=hide hm0
            clear he hm0 e
            go_wp2
            ((first | with_reducible refine wp_region_ext2 (by kernel_rfl) (by kernel_rfl) ?_ | refine wp_region_ext (by kernel_rfl) (by kernel_rfl) ?_);(repeat (go_big_quiet_step ((go_at_call 249;with_reducible exact Gives.inRegion (muldiv_any _ _ _ _)))));refine wpQuiet_nil ?_;intro _ hw';obtain ⟨_,hw''⟩:=hw';subst hw'')
            go_wp2
            refine ⟨⟨4,by omega,by go_num,(Up.via HQ.out.2),?_⟩,by simp [intOf]⟩
            have h:=fun p=>((HQ.out.1.set 6 (.int .i64 (-1152921504606846976))).set 7 (.int .i64 (-1152921504606846976))).ext p
            simpa [arrQ,HE.out] using h _
          · have hm0:m 3=(1152921504606846976,1152921504606846976):=by rw [e];unfold mdP;rw [if_neg he,if_neg hn]
            have HE:=hide hm0
            clear he hm0 e
            go_wp2
            ((first | with_reducible refine wp_region_ext2 (by kernel_rfl) (by kernel_rfl) ?_ | refine wp_region_ext (by kernel_rfl) (by kernel_rfl) ?_);(repeat (go_big_quiet_step ((go_at_call 249;with_reducible exact Gives.inRegion (muldiv_any _ _ _ _)))));refine wpQuiet_nil ?_;intro _ hw';obtain ⟨_,hw''⟩:=hw';subst hw'')
            go_wp2
            refine ⟨⟨4,by omega,by go_num,(Up.via HQ.out.2),?_⟩,by simp [intOf]⟩
            have h:=fun p=>((HQ.out.1.set 6 (.int .i64 1152921504606846976)).set 7 (.int .i64 1152921504606846976)).ext p
            simpa [arrQ,HE.out] using h _
    · obtain rfl:k=4:=by omega
      have hq4:Box wr W.heap.size #[.int .i64 (m 0).1,.int .i64 (m 0).2,.int .i64 (m 1).1,.int .i64 (m 1).2,.int .i64 (m 2).1,.int .i64 (m 2).2,.int .i64 (m 3).1,.int .i64 (m 3).2] 148:=by simpa [arrQ] using hq
      obtain ⟨e0,e1,e2,e3,e4,e5,e6,e7⟩:=hq4.c8
      have b3':=HB.out.2.2.1.up hur
      have b4':=HB.out.2.2.2.1.up hur
      obtain ⟨b30,b31⟩:=b3'.c2
      obtain ⟨b40,b41⟩:=b4'.c2
      obtain ⟨f40,f41⟩:=b4'.f2
      have HX:=hide (And.intro hur (And.intro hq4 b4'))
      clear hur hq hq4 b3' b4' c0 c5 c5' c6 c6'
      go_wp2
      refine wp_loop_rounds 4 ?_
      rw [rounds_succ]
      go_wp2
      rw [rounds_succ]
      refine forgetW (fun V=>Up wr V∧Box V wr.heap.size #[.int .i64 (min (m 0).1 ((m 1).1)),.int .i64 (max (m 0).2 ((m 1).2))] 31) ⟨Up.go,Box.go⟩ ?_
      rintro V ⟨hv,bn⟩
      clear e0 e1 e2 e3 e4 e5 e6 e7 b30 b31 b40 b41 f40 f41 b3c
      have e4:=(HX.out.2.1.up hv).cell 4 rfl
      have e5:=(HX.out.2.1.up hv).cell 5 rfl
      have e6:=(HX.out.2.1.up hv).cell 6 rfl
      have e7:=(HX.out.2.1.up hv).cell 7 rfl
      have b3':=(HB.out.2.2.1.up HX.out.1).up hv
      have b4':=HX.out.2.2.up hv
      obtain ⟨b30,b31⟩:=b3'.c2
      obtain ⟨b40,b41⟩:=b4'.c2
      obtain ⟨f40,f41⟩:=b4'.f2
      obtain ⟨n0,n1⟩:=bn.c2
      obtain ⟨nf0,nf1⟩:=bn.f2
      have hvs:=hv.below.size
      have nl:=bn.lt
      have v1:W.heap.size<V.heap.size:=by omega
      have v2:w.heap.size+1+1+1<V.heap.size:=by omega
      have v3:w.heap.size+1+1+1+1<V.heap.size:=by omega
      have v4:w.heap.size+1+1+1≠wr.heap.size:=by omega
      have v5:w.heap.size+1+1+1+1≠wr.heap.size:=by omega
      have v6:W.heap.size≠wr.heap.size:=by omega
      have HV:=hide (And.intro hv (And.intro b4' bn))
      clear hv b3' b4' bn
      go_wp2
      rw [rounds_succ]
      refine forgetW (fun V'=>Up wr V'∧Box V' wr.heap.size #[.int .i64 (min (m 0).1 (min (m 1).1 ((m 2).1))),.int .i64 (max (m 0).2 (max (m 1).2 ((m 2).2)))] 31) ⟨(Up.via HV.out.1),((HV.out.2.2.set 0 (.int .i64 (min (m 0).1 (min (m 1).1 ((m 2).1))))).set 1 (.int .i64 (max (m 0).2 (max (m 1).2 ((m 2).2))))).alloc _⟩ ?_
      clear n0 n1 nf0 nf1 hvs nl v1 v2 v3 b30 b31 b40 b41 f40 f41 e4 e5 e6 e7 v4 v5 v6
      rintro U ⟨hv,bn⟩
      have e6:=(HX.out.2.1.up hv).cell 6 rfl
      have e7:=(HX.out.2.1.up hv).cell 7 rfl
      have b3':=(HB.out.2.2.1.up HX.out.1).up hv
      have b4':=HX.out.2.2.up hv
      obtain ⟨b30,b31⟩:=b3'.c2
      obtain ⟨b40,b41⟩:=b4'.c2
      obtain ⟨f40,f41⟩:=b4'.f2
      obtain ⟨n0,n1⟩:=bn.c2
      obtain ⟨nf0,nf1⟩:=bn.f2
      have hvs:=hv.below.size
      have nl:=bn.lt
      have v1:W.heap.size<U.heap.size:=by omega
      have v2:w.heap.size+1+1+1<U.heap.size:=by omega
      have v3:w.heap.size+1+1+1+1<U.heap.size:=by omega
      have v4:w.heap.size+1+1+1≠wr.heap.size:=by omega
      have v5:w.heap.size+1+1+1+1≠wr.heap.size:=by omega
      have v6:W.heap.size≠wr.heap.size:=by omega
      have HU:=hide (And.intro hv (And.intro b4' bn))
      clear hv b3' b4' bn
      go_wp2
      rw [rounds_succ]
      refine forgetW (fun V'=>Up wr V'∧Box V' wr.heap.size #[.int .i64 (min (m 0).1 (min (m 1).1 (min (m 2).1 ((m 3).1)))),.int .i64 (max (m 0).2 (max (m 1).2 (max (m 2).2 ((m 3).2))))] 31) ⟨(Up.via HU.out.1),((HU.out.2.2.set 0 (.int .i64 (min (m 0).1 (min (m 1).1 (min (m 2).1 ((m 3).1)))))).set 1 (.int .i64 (max (m 0).2 (max (m 1).2 (max (m 2).2 ((m 3).2)))))).alloc _⟩ ?_
      clear n0 n1 nf0 nf1 hvs nl v1 v2 v3 b30 b31 b40 b41 f40 f41 e6 e7 v4 v5 v6
      rintro T ⟨hv,bn⟩
      have b3':=(HB.out.2.2.1.up HX.out.1).up hv
      have b4':=HX.out.2.2.up hv
      obtain ⟨b30,b31⟩:=b3'.c2
      obtain ⟨b40,b41⟩:=b4'.c2
      obtain ⟨f40,f41⟩:=b4'.f2
      obtain ⟨n0,n1⟩:=bn.c2
      obtain ⟨nf0,nf1⟩:=bn.f2
      have hvs:=hv.below.size
      have nl:=bn.lt
      have v1:W.heap.size<T.heap.size:=by omega
      have v2:w.heap.size+1+1+1<T.heap.size:=by omega
      have v3:w.heap.size+1+1+1+1<T.heap.size:=by omega
      have v4:w.heap.size+1+1+1≠wr.heap.size:=by omega
      have v5:w.heap.size+1+1+1+1≠wr.heap.size:=by omega
      have v6:W.heap.size≠wr.heap.size:=by omega
      have HT:=hide (And.intro hv (And.intro b4' bn))
      clear hv b3' b4' bn
      go_wp2_with (first|(go_at_call 234;refine (fquot4 _ _ _ _ _).mono ?_;intro _)|(go_at_call 250;refine (fclamp_any _ _ _).mono ?_;intro _))
      have hS:scaledP mu (x1,x2) (q1,q2)=(min (m 0).1 (min (m 1).1 (min (m 2).1 ((m 3).1))),max (m 0).2 (max (m 1).2 (max (m 2).2 ((m 3).2)))):=by
       rw [← HM.out]
       unfold scaledP hullP mdQ
       simp
       try (constructor <;> omega)
      have hR:towardP mu (x1,x2) (q1,q2) (d1,d2)=clampP ((quotP (min (m 0).1 (min (m 1).1 (min (m 2).1 ((m 3).1))),max (m 0).2 (max (m 1).2 (max (m 2).2 ((m 3).2)))) (d1,d2)).1,(quotP (min (m 0).1 (min (m 1).1 (min (m 2).1 ((m 3).1))),max (m 0).2 (max (m 1).2 (max (m 2).2 ((m 3).2)))) (d1,d2)).2):=by unfold towardP;rw [hS]
      rw [hR]
      obtain ⟨R,hRR⟩:∃ R,clampP ((quotP (min (m 0).1 (min (m 1).1 (min (m 2).1 ((m 3).1))),max (m 0).2 (max (m 1).2 (max (m 2).2 ((m 3).2)))) (d1,d2)).1,(quotP (min (m 0).1 (min (m 1).1 (min (m 2).1 ((m 3).1))),max (m 0).2 (max (m 1).2 (max (m 2).2 ((m 3).2)))) (d1,d2)).2)=R:=⟨_,rfl⟩
      rw [hRR]
      have q:=fun p=>((HT.out.2.1.set 0 (.int .i64 R.1)).set 1 (.int .i64 R.2)).ext p
      have q0:=fun p=>(q p).cell 0 (v:=.int .i64 R.1) rfl
      have q1':=fun p=>(q p).cell 1 (v:=.int .i64 R.2) rfl
      have hU:=(HB.out.1.trans HX.out.1).trans HT.out.1
      clear q hS hR hRR
      (refine bodyPost_give (Up.via hU) rfl ⟨_,(by simp [results,Tryz.results232,go_sem,q0,q1'];rfl),?_⟩)
      rfl
 · intro K HQ
   go_region
   all_goals refine HQ.out _ _ ?_
   all_goals clear HQ
   · exact ⟨w.heap.size+1+1+1+1+1,w.heap.size+1+1+1+1+1+1,by kernel_rfl,Up.go,Box.go,Box.go,Box.go,Box.go,Box.go,by omega,by omega⟩
   · exact ⟨w.heap.size+1+1+1+1+1+1,w.heap.size+1+1+1+1+1,by kernel_rfl,Up.go,Box.go,Box.go,Box.go,Box.go,Box.go,by omega,by omega⟩
theorem fpull_any (mu r:Int) (tv:Value) (p:Sp) (a:Ar) (r0:0≤r) (r1:r≤1048576) (w:World):Gives Tryz.prog 215 #[.agg #[.int .i64 mu,.int .i64 r,tv,.int .i64 p.1,.int .i64 p.2],.agg #[.int .i64 a.1,.int .i64 a.2.1,.int .i64 a.2.2.1,.int .i64 a.2.2.2]] w
 (.agg #[.int .i64 (pullP mu r p a).1,.int .i64 (pullP mu r p a).2.1,.int .i64 (pullP mu r p a).2.2.1,.int .i64 (pullP mu r p a).2.2.2]):=by
 have HT:=hide (fun W=>fto_any mu r tv p a W)
 have HD:=hide (fun W=>fdist_any mu r tv p a r0 r1 W)
 have HW:=hide (fun x q d W=>ftoward_any mu r tv p.1 p.2 x q d W)
 unfold pullP
 obtain ⟨v,hv⟩:∃ v,toP p a=v:=⟨_,rfl⟩
 rw [hv] at HT HD ⊢
 clear hv
 obtain ⟨p1,p2⟩:=p
 obtain ⟨a1,a2,a3,a4⟩:=a
 obtain ⟨v1,v2,v3,v4⟩:=v
 obtain ⟨q,hq⟩:∃ q,sqP r (v1,v2,v3,v4)=q:=⟨_,rfl⟩
 obtain ⟨d,hd⟩:∃ q,distP r (v1,v2,v3,v4)=q:=⟨_,rfl⟩
 rw [hq,hd] at HD ⊢
 clear hq hd
 obtain ⟨q1,q2⟩:=q
 obtain ⟨d1,d2⟩:=d
 have H1:=hide (fun W=>HW.out (v1,v2) (q1,q2) (d1,d2) W)
 have H2:=hide (fun W=>HW.out (v3,v4) (q1,q2) (d1,d2) W)
 dsimp only at HT HD H1 H2
 clear HW
 simp only [arX,arY]
 obtain ⟨x,hx⟩:∃ x,towardP mu (v1,v2) (q1,q2) (d1,d2)=x:=⟨_,rfl⟩
 obtain ⟨y,hy⟩:∃ x,towardP mu (v3,v4) (q1,q2) (d1,d2)=x:=⟨_,rfl⟩
 rw [hx] at H1 ⊢
 rw [hy] at H2 ⊢
 clear hx hy
 (unfold Gives;go_enter Tryz.func215,Tryz.ntmps215)
 go_wp2_with (first|(go_at_call 231;refine (HT.out _).mono ?_;intro _)|(go_at_call 230;refine (HD.out _).mono ?_;intro _))
 ((first | with_reducible refine wp_region_ext_tail2 1 (by kernel_rfl) (by kernel_rfl) ?_ | refine wp_region_ext_tail 1 (by kernel_rfl) (by kernel_rfl) ?_);simp only [List.length_cons,List.length_nil,Nat.reduceAdd,Nat.reduceSub,List.take_succ_cons,List.take_zero,List.drop_succ_cons,List.drop_zero];(repeat (go_big_quiet_step ((first | (go_at_call 232;with_reducible exact Gives.inRegion (H1.out _)) | (go_at_call 232;with_reducible exact Gives.inRegion (H2.out _))))));refine wpQuiet_nil ?_;intro _ hw';obtain ⟨_,hw''⟩:=hw';subst hw'')
 go_wp2
 obtain ⟨x1,x2⟩:=x
 obtain ⟨y1,y2⟩:=y
 (refine forgetW (fun WF=>Up w WF∧Box WF (w.heap.size+1+1) #[.int .i64 ((x1,x2,y1,y2):Ar).1,.int .i64 ((x1,x2,y1,y2):Ar).2.1,.int .i64 ((x1,x2,y1,y2):Ar).2.2.1,.int .i64 ((x1,x2,y1,y2):Ar).2.2.2] 61) ⟨Up.go,Box.go⟩ ?_;rintro WF ⟨huF,hbF⟩;have zF0:=hbF.cell 0 rfl;have zF1:=hbF.cell 1 rfl;have zF2:=hbF.cell 2 rfl;have zF3:=hbF.cell 3 rfl;(refine bodyPost_give huF rfl ⟨_,(by simp [results,Tryz.results215,go_sem,zF0,zF1,zF2,zF3];rfl),?_⟩);rfl)
theorem fof_any {K:Nat→Prop} {w:World} {a:Option Addr} {n c:Nat} {bs:List Bod} {home t:Int} {i:Nat} {b:Bod} (hl:Bods K w (.slice a n c) bs) (hh:I64 home) (hv:worldE bs home=0) (hi:bs[i]?=some b) (t0:0≤t) (t1:t≤1073741824) :
 ∃ tv:Value,∀ W,Up w W→Gives Tryz.prog 214 #[.agg #[.slice a n c,.int .i64 home],.int .i64 i,.int .i64 t] W (.agg #[.int .i64 b.mu,.int .i64 b.radius,tv,.int .i64 (placeV b t).1,.int .i64 (placeV b t).2]):=by
 have hn:=(Bods.at hl).1
 have hm:=(Bods.at hl).2.1
 have hil:=(List.getElem?_eq_some_iff.1 hi).1
 obtain ⟨bb,o,p,ta,tn,tc,rfl,hKb,hbw,hp,hpp,hc0,hc1,hc2,ht⟩:=(Bods.at hl).2.2 i (by omega)
 rw [hi] at hp
 cases hp
 refine ⟨.slice ta tn tc,fun W hu=>?_⟩
 have HA:=hide (fun W' (hu':Up W W')=>skat_any (hl.keeps ((hu.trans hu').keeps K)) hh (i:Int) t)
 have hA:atW bs home (i:Int) t=placeV b t:=by
  unfold atW
  rw [if_pos ⟨hv,by omega,by omega,by simp [withinB];omega⟩]
  simp [List.getD,hi]
 rw [hA] at HA
 have g0:=(up_cell hu hbw (o:=o+i*3)).trans hc0
 have g1:=(up_cell hu hbw (o:=o+i*3+1)).trans hc1
 have g2:=(up_cell hu hbw (o:=o+i*3+2)).trans hc2
 have hbW:bb<W.heap.size:=Nat.lt_of_lt_of_le hbw hu.below.size
 have j0:(0:Int)≤(i:Int):=by omega
 have j1:(i:Int)<n:=by omega
 generalize placeV b t=P at *
 clear hl hi hKb hpp hc0 hc1 hc2 ht hA hv hu hbw hil hn
 (unfold Gives;go_enter Tryz.func214,Tryz.ntmps214)
 go_wp2
 ((first | with_reducible refine wp_region_ext_tail2 1 (by kernel_rfl) (by kernel_rfl) ?_ | refine wp_region_ext_tail 1 (by kernel_rfl) (by kernel_rfl) ?_);simp only [List.length_cons,List.length_nil,Nat.reduceAdd,Nat.reduceSub,List.take_succ_cons,List.take_zero,List.drop_succ_cons,List.drop_zero];(repeat (go_big_quiet_step ((go_at_call 100;with_reducible exact Gives.inRegion (HA.out _ Up.go)))));refine wpQuiet_nil ?_;intro _ hw';obtain ⟨_,hw''⟩:=hw';subst hw'')
 go_wp2
 all_goals (refine bodyPost_give Up.go rfl ⟨_,(by simp [results,Tryz.results214,go_sem];rfl),?_⟩)
 all_goals rfl
theorem fminus_any (a b:Int) (a0:-9223372036854775807≤a) (a1:a≤9223372036854775807) (b0:-9223372036854775807≤b) (b1:b≤9223372036854775807) (w:World):Gives Tryz.prog 217 #[.agg #[.int .i64 a,.int .i64 b]] w (.agg #[.int .i64 (-b),.int .i64 (-a)]):=by
 (unfold Gives;go_enter Tryz.func217,Tryz.ntmps217)
 go_wp2
 all_goals (refine bodyPost_give Up.go rfl ⟨_,(by simp [results,Tryz.results217,go_sem];rfl),?_⟩)
 all_goals rfl
theorem fpart4 (a b c d:Int) (w:World):Gives Tryz.prog 218 #[.agg #[.int .i64 a,.int .i64 b],.agg #[.int .i64 c,.int .i64 d]] w (.agg #[.int .i64 (partP (a,b) (c,d)).1,.int .i64 (partP (a,b) (c,d)).2]):=by
 (unfold Gives;go_enter Tryz.func218,Tryz.ntmps218)
 go_wp2_with (first|(go_at_call 235;refine (fmul4 _ _ _ _ _).mono ?_;intro _)|(go_at_call 193;refine (fone_any _ _).mono ?_;intro _)|(go_at_call 234;refine (fquot4 _ _ _ _ _).mono ?_;intro _))
 all_goals (refine bodyPost_give Up.go rfl ⟨_,(by simp [results,Tryz.results218,go_sem];rfl),?_⟩)
 all_goals rfl
end Go.Proofs.YteafglginnonnaaGreat
