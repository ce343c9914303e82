/- Package force: a body at a tick, its pull on an area; light and heat. Conditions: a radius up to its limit; what lies in memory. -/
import Derived.Test.YteafglginnonnaaGreatModk
import Derived.Test.YteafglginnonnaaGreatRing
namespace Go.Proofs.YteafglginnonnaaGreat
set_option linter.unusedVariables false
set_option linter.unusedSimpArgs false
open Go.RowKit Go.Shelf
set_option maxRecDepth 100000 in
set_option maxHeartbeats 2000000 in
theorem fpull_any (mu r:Int) (tv:Value) (p:Sp) (a:Ar) (r0:0 ≤ r) (r1:r ≤ 1048576) (w:World):Gives Tryz.prog 215 #[.agg #[.int .i64 mu,.int .i64 r,tv,.int .i64 p.1,.int .i64 p.2],.agg #[.int .i64 a.1,.int .i64 a.2.1,.int .i64 a.2.2.1,.int .i64 a.2.2.2]] w
 (.agg #[.int .i64 (pullP mu r p a).1,.int .i64 (pullP mu r p a).2.1,.int .i64 (pullP mu r p a).2.2.1,.int .i64 (pullP mu r p a).2.2.2]):=by
 have HT:=hide (fun W=>fto_any mu r tv p a W)
 have HD:=hide (fun W=>fdist_any mu r tv p a r0 r1 W)
 have HW:=hide (fun x q d W=>ftoward_any mu r tv p.1 p.2 x q d W)
 unfold pullP
 obtain ⟨v,hv⟩:∃ v,toP p a = v:=⟨_,rfl⟩
 rw [hv] at HT HD ⊢
 clear hv
 obtain ⟨p1,p2⟩:=p
 obtain ⟨a1,a2,a3,a4⟩:=a
 obtain ⟨v1,v2,v3,v4⟩:=v
 obtain ⟨q,hq⟩:∃ q,sqP r (v1,v2,v3,v4) = q:=⟨_,rfl⟩
 obtain ⟨d,hd⟩:∃ q,distP r (v1,v2,v3,v4) = q:=⟨_,rfl⟩
 rw [hq,hd] at HD ⊢
 clear hq hd
 obtain ⟨q1,q2⟩:=q
 obtain ⟨d1,d2⟩:=d
 have H1:=hide (fun W=>HW.out (v1,v2) (q1,q2) (d1,d2) W)
 have H2:=hide (fun W=>HW.out (v3,v4) (q1,q2) (d1,d2) W)
 dsimp only at HT HD H1 H2
 clear HW
 simp only [arX,arY]
 obtain ⟨x,hx⟩:∃ x,towardP mu (v1,v2) (q1,q2) (d1,d2) = x:=⟨_,rfl⟩
 obtain ⟨y,hy⟩:∃ x,towardP mu (v3,v4) (q1,q2) (d1,d2) = x:=⟨_,rfl⟩
 rw [hx] at H1 ⊢
 rw [hy] at H2 ⊢
 clear hx hy
 (unfold Gives;go_enter Tryz.func215,Tryz.ntmps215)
 go_wp2_with (first | (go_at_call 231;refine (HT.out _).mono ?_;intro _) | (go_at_call 230;refine (HD.out _).mono ?_;intro _))
 ((first | with_reducible refine wp_region_ext_tail2 1 (by kernel_rfl) (by kernel_rfl) ?_ | refine wp_region_ext_tail 1 (by kernel_rfl) (by kernel_rfl) ?_);simp only [List.length_cons,List.length_nil,Nat.reduceAdd,Nat.reduceSub,List.take_succ_cons,List.take_zero,List.drop_succ_cons,List.drop_zero];(repeat (go_big_quiet_step ((first | (go_at_call 232;with_reducible exact Gives.inRegion (H1.out _)) | (go_at_call 232;with_reducible exact Gives.inRegion (H2.out _))))));refine wpQuiet_nil ?_;intro _ hw';obtain ⟨_,hw''⟩:=hw';subst hw'')
 go_wp2
 obtain ⟨x1,x2⟩:=x
 obtain ⟨y1,y2⟩:=y
 (refine forgetW (fun WF=>Up w WF ∧ Box WF (w.heap.size + 1 + 1) #[.int .i64 ((x1,x2,y1,y2):Ar).1,.int .i64 ((x1,x2,y1,y2):Ar).2.1,.int .i64 ((x1,x2,y1,y2):Ar).2.2.1,.int .i64 ((x1,x2,y1,y2):Ar).2.2.2] 61) ⟨(by repeat (first | with_reducible exact Up.refl _ | with_reducible apply Up.plus | apply Up.ext | apply Up.alloc | apply Up.drew | (refine Up.setCell ?_ (by simp;try omega) _))),(by repeat (first | exact Box.mk rfl | (refine Box.mk ?_;simp;done) | apply Box.ext | apply Box.drew | apply Box.alloc | apply Box.two1 | (refine Box.other ?_ (by omega) _ _)))⟩ ?_;rintro WF ⟨huF,hbF⟩;have zF0:=hbF.cell 0 rfl;have zF1:=hbF.cell 1 rfl;have zF2:=hbF.cell 2 rfl;have zF3:=hbF.cell 3 rfl;(refine bodyPost_give huF rfl ⟨_,(by simp [results,Tryz.results215,go_sem,zF0,zF1,zF2,zF3];rfl),?_⟩);rfl)
set_option maxRecDepth 100000 in
set_option maxHeartbeats 2000000 in
theorem fof_any {K:Nat → Prop} {w:World} {a:Option Addr} {n c:Nat} {bs:List Bod} {home t:Int} {i:Nat} {b:Bod} (hl:Bods K w (.slice a n c) bs) (hh:I64 home) (hv:worldE bs home = 0) (hi:bs[i]? = some b) (t0:0 ≤ t) (t1:t ≤ 1073741824) :
 ∃ tv:Value,∀ W,Up w W → Gives Tryz.prog 214 #[.agg #[.slice a n c,.int .i64 home],.int .i64 i,.int .i64 t] W (.agg #[.int .i64 b.mu,.int .i64 b.radius,tv,.int .i64 (placeV b t).1,.int .i64 (placeV b t).2]):=by
 have hn:=(Bods.at hl).1
 have hm:=(Bods.at hl).2.1
 have hil:=(List.getElem?_eq_some_iff.1 hi).1
 obtain ⟨bb,o,p,ta,tn,tc,rfl,hKb,hbw,hp,hpp,hc0,hc1,hc2,ht⟩:=(Bods.at hl).2.2 i (by omega)
 rw [hi] at hp
 cases hp
 refine ⟨.slice ta tn tc,fun W hu=>?_⟩
 have HA:=hide (fun W' (hu':Up W W')=>skat_any (hl.keeps ((hu.trans hu').keeps K)) hh (i:Int) t)
 have hA:atW bs home (i:Int) t = placeV b t:=by
  unfold atW
  rw [if_pos ⟨hv,by omega,by omega,by simp [withinB];omega⟩]
  simp [List.getD,hi]
 rw [hA] at HA
 have g0:=(up_cell hu hbw (o:=o + i * 3)).trans hc0
 have g1:=(up_cell hu hbw (o:=o + i * 3 + 1)).trans hc1
 have g2:=(up_cell hu hbw (o:=o + i * 3 + 2)).trans hc2
 have hbW:bb < W.heap.size:=Nat.lt_of_lt_of_le hbw hu.below.size
 have j0:(0:Int) ≤ (i:Int):=by omega
 have j1:(i:Int) < n:=by omega
 generalize placeV b t = P at *
 clear hl hi hKb hpp hc0 hc1 hc2 ht hA hv hu hbw hil hn
 (unfold Gives;go_enter Tryz.func214,Tryz.ntmps214)
 go_wp2
 ((first | with_reducible refine wp_region_ext_tail2 1 (by kernel_rfl) (by kernel_rfl) ?_ | refine wp_region_ext_tail 1 (by kernel_rfl) (by kernel_rfl) ?_);simp only [List.length_cons,List.length_nil,Nat.reduceAdd,Nat.reduceSub,List.take_succ_cons,List.take_zero,List.drop_succ_cons,List.drop_zero];(repeat (go_big_quiet_step ((go_at_call 100;with_reducible exact Gives.inRegion (HA.out _ (by repeat (first | with_reducible exact Up.refl _ | with_reducible apply Up.plus | apply Up.ext | apply Up.alloc | apply Up.drew | (refine Up.setCell ?_ (by simp;try omega) _))))))));refine wpQuiet_nil ?_;intro _ hw';obtain ⟨_,hw''⟩:=hw';subst hw'')
 go_wp2
 all_goals (refine bodyPost_give (by repeat (first | with_reducible exact Up.refl _ | with_reducible apply Up.plus | apply Up.ext | apply Up.alloc | apply Up.drew | (refine Up.setCell ?_ (by simp;try omega) _))) rfl ⟨_,(by simp [results,Tryz.results214,go_sem];rfl),?_⟩)
 all_goals rfl
theorem fminus_any (a b:Int) (a0:-9223372036854775807 ≤ a) (a1:a ≤ 9223372036854775807) (b0:-9223372036854775807 ≤ b) (b1:b ≤ 9223372036854775807) (w:World):Gives Tryz.prog 217 #[.agg #[.int .i64 a,.int .i64 b]] w (.agg #[.int .i64 (-b),.int .i64 (-a)]):=by
 (unfold Gives;go_enter Tryz.func217,Tryz.ntmps217)
 go_wp2
 all_goals (refine bodyPost_give (by repeat (first | with_reducible exact Up.refl _ | with_reducible apply Up.plus | apply Up.ext | apply Up.alloc | apply Up.drew | (refine Up.setCell ?_ (by simp;try omega) _))) rfl ⟨_,(by simp [results,Tryz.results217,go_sem];rfl),?_⟩)
 all_goals rfl
theorem fpart4 (a b c d:Int) (w:World):Gives Tryz.prog 218 #[.agg #[.int .i64 a,.int .i64 b],.agg #[.int .i64 c,.int .i64 d]] w (.agg #[.int .i64 (partP (a,b) (c,d)).1,.int .i64 (partP (a,b) (c,d)).2]):=by
 (unfold Gives;go_enter Tryz.func218,Tryz.ntmps218)
 go_wp2_with (first | (go_at_call 235;refine (fmul4 _ _ _ _ _).mono ?_;intro _) | (go_at_call 193;refine (fone_any _ _).mono ?_;intro _) | (go_at_call 234;refine (fquot4 _ _ _ _ _).mono ?_;intro _))
 all_goals (refine bodyPost_give (by repeat (first | with_reducible exact Up.refl _ | with_reducible apply Up.plus | apply Up.ext | apply Up.alloc | apply Up.drew | (refine Up.setCell ?_ (by simp;try omega) _))) rfl ⟨_,(by simp [results,Tryz.results218,go_sem];rfl),?_⟩)
 all_goals rfl
end Go.Proofs.YteafglginnonnaaGreat
