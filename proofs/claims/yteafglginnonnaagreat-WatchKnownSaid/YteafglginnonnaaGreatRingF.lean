/- Several texts in one. -/
import Derived.Test.YteafglginnonnaaGreatSpanB
import Derived.Test.YteafglginnonnaaGreatSkyB
import Derived.Test.YteafglginnonnaaGreatForceB
import Derived.Test.YteafglginnonnaaGreatSkyC
import Derived.Test.YteafglginnonnaaGreatStore
import Derived.Test.YteafglginnonnaaGreatRing
/- Package orbit: states, boxes, sets. No conditions but what lies in memory. -/
namespace Go.Proofs.YteafglginnonnaaGreat
set_option linter.unusedVariables false
set_option linter.unusedSimpArgs false
open Go.RowKit Go.Shelf
abbrev boxA (b:BoxD):Array Value:=#[.int .i64 (b.x0),.int .i64 (b.x1),.int .i64 (b.y0),.int .i64 (b.y1),.int .i64 (b.u0),.int .i64 (b.u1),.int .i64 (b.v0),.int .i64 (b.v1)]
def RBox (_:World) (b:BoxD) (vs:List Value):Prop:=vs = [.int .i64 b.x0,.int .i64 b.x1,.int .i64 b.y0,.int .i64 b.y1,.int .i64 b.u0,.int .i64 b.u1,.int .i64 b.v0,.int .i64 b.v1]
abbrev Boxes (K:Nat → Prop):=Lies K 8 RBox
theorem Boxes.keeps {K:Nat → Prop} {w w':World} {v:Value} {l:List BoxD} (h:Boxes K w v l) (hk:Keeps K w w'):Boxes K w' v l:=Lies.keeps h hk fun _ _ h=>h
theorem Boxes.mono {K K':Nat → Prop} {w:World} {v:Value} {l:List BoxD} (h:Boxes K w v l) (hK:∀ b,b < w.heap.size → K b → K' b):Boxes K' w v l:=Lies.mono h hK fun _ _ h=>h
theorem Boxes.at {K:Nat → Prop} {w:World} {a:Option Addr} {n c:Nat} {l:List BoxD} (h:Boxes K w (.slice a n c) l):n = l.length ∧ n ≤ 9223372036854775807 ∧
 ∀ i,i < n → ∃ b o p,a = some ⟨b,o,none⟩ ∧ K b ∧ b < w.heap.size ∧ l[i]? = some p ∧ w.cell? ⟨b,o + i * 8,none⟩ = some (.int .i64 p.x0) ∧ w.cell? ⟨b,o + i * 8 + 1,none⟩ = some (.int .i64 p.x1) ∧ w.cell? ⟨b,o + i * 8 + 2,none⟩ = some (.int .i64 p.y0) ∧ w.cell? ⟨b,o + i * 8 + 3,none⟩ = some (.int .i64 p.y1) ∧
  w.cell? ⟨b,o + i * 8 + 4,none⟩ = some (.int .i64 p.u0) ∧ w.cell? ⟨b,o + i * 8 + 5,none⟩ = some (.int .i64 p.u1) ∧ w.cell? ⟨b,o + i * 8 + 6,none⟩ = some (.int .i64 p.v0) ∧ w.cell? ⟨b,o + i * 8 + 7,none⟩ = some (.int .i64 p.v1):=by
 obtain ⟨a',c',h1,h2,h3⟩:=h
 simp at h1
 obtain ⟨rfl,rfl,rfl⟩:=h1
 refine ⟨rfl,h2,fun i hi=>?_⟩
 obtain ⟨b,o,rfl,hK,hb,hc⟩:=h3 (by intro e;subst e;simp at hi)
 obtain ⟨vs,rfl,_,hx⟩:=hc i l[i] (List.getElem?_eq_getElem hi)
 exact ⟨b,o,l[i],rfl,hK,hb,List.getElem?_eq_getElem hi,hx 0 _ rfl,hx 1 _ rfl,hx 2 _ rfl,hx 3 _ rfl,hx 4 _ rfl,hx 5 _ rfl,hx 6 _ rfl,hx 7 _ rfl⟩
theorem owithin_any (n lo hi:Int) (w:World):Gives Tryz.prog 66 #[.int .i64 n,.int .i64 lo,.int .i64 hi] w (.bool (withinB n lo hi)):=by
 unfold withinB
 (unfold Gives;go_enter Tryz.func66,Tryz.ntmps66)
 go_wp2
 all_goals (go_ret;refine ⟨?_,(by repeat (first | with_reducible exact Up.refl _ | with_reducible apply Up.plus | apply Up.ext | apply Up.alloc | apply Up.drew | (refine Up.setCell ?_ (by simp;try omega) _)))⟩)
 all_goals (go_light;first | (simp_all [withinB];done) | (simp_all [withinB];omega) | (simp_all [withinB];repeat' split;all_goals (first | (simp_all;done) | omega | (simp_all;omega))))
set_option maxRecDepth 100000 in
set_option maxHeartbeats 4000000 in
theorem ostate_any (x y u v:Int) (w:World):Gives Tryz.prog 67 #[.agg #[.int .i64 (x),.int .i64 (y),.int .i64 (u),.int .i64 (v)]] w (.int .i64 (stateE x y u v)):=by
 have H1:=hide (fun W=>owithin_any x (-33554432) 33554432 W)
 have H2:=hide (fun W=>owithin_any y (-33554432) 33554432 W)
 have H3:=hide (fun W=>owithin_any u (-1048576) 1048576 W)
 have H4:=hide (fun W=>owithin_any v (-1048576) 1048576 W)
 unfold stateE
 generalize withinB x (-33554432) 33554432 = A at *
 generalize withinB y (-33554432) 33554432 = B at *
 generalize withinB u (-1048576) 1048576 = C at *
 generalize withinB v (-1048576) 1048576 = D at *
 cases A
 · (unfold Gives;go_enter Tryz.func67,Tryz.ntmps67)
   go_wp2_with (first | (go_at_call 66;(with_reducible refine (H1.out _).mono ?_);intro _) | (go_at_call 66;(with_reducible refine (H2.out _).mono ?_);intro _) | (go_at_call 66;(with_reducible refine (H3.out _).mono ?_);intro _) | (go_at_call 66;(with_reducible refine (H4.out _).mono ?_);intro _))
   go_ret
   exact ⟨rfl,(by repeat (first | with_reducible exact Up.refl _ | with_reducible apply Up.plus | apply Up.ext | apply Up.alloc | apply Up.drew | (refine Up.setCell ?_ (by simp;try omega) _)))⟩
 cases B
 · (unfold Gives;go_enter Tryz.func67,Tryz.ntmps67)
   go_wp2_with (first | (go_at_call 66;(with_reducible refine (H1.out _).mono ?_);intro _) | (go_at_call 66;(with_reducible refine (H2.out _).mono ?_);intro _) | (go_at_call 66;(with_reducible refine (H3.out _).mono ?_);intro _) | (go_at_call 66;(with_reducible refine (H4.out _).mono ?_);intro _))
   go_ret
   exact ⟨rfl,(by repeat (first | with_reducible exact Up.refl _ | with_reducible apply Up.plus | apply Up.ext | apply Up.alloc | apply Up.drew | (refine Up.setCell ?_ (by simp;try omega) _)))⟩
 cases C
 · (unfold Gives;go_enter Tryz.func67,Tryz.ntmps67)
   go_wp2_with (first | (go_at_call 66;(with_reducible refine (H1.out _).mono ?_);intro _) | (go_at_call 66;(with_reducible refine (H2.out _).mono ?_);intro _) | (go_at_call 66;(with_reducible refine (H3.out _).mono ?_);intro _) | (go_at_call 66;(with_reducible refine (H4.out _).mono ?_);intro _))
   go_ret
   exact ⟨rfl,(by repeat (first | with_reducible exact Up.refl _ | with_reducible apply Up.plus | apply Up.ext | apply Up.alloc | apply Up.drew | (refine Up.setCell ?_ (by simp;try omega) _)))⟩
 cases D
 · (unfold Gives;go_enter Tryz.func67,Tryz.ntmps67)
   go_wp2_with (first | (go_at_call 66;(with_reducible refine (H1.out _).mono ?_);intro _) | (go_at_call 66;(with_reducible refine (H2.out _).mono ?_);intro _) | (go_at_call 66;(with_reducible refine (H3.out _).mono ?_);intro _) | (go_at_call 66;(with_reducible refine (H4.out _).mono ?_);intro _))
   go_ret
   exact ⟨rfl,(by repeat (first | with_reducible exact Up.refl _ | with_reducible apply Up.plus | apply Up.ext | apply Up.alloc | apply Up.drew | (refine Up.setCell ?_ (by simp;try omega) _)))⟩
 · (unfold Gives;go_enter Tryz.func67,Tryz.ntmps67)
   go_wp2_with (first | (go_at_call 66;(with_reducible refine (H1.out _).mono ?_);intro _) | (go_at_call 66;(with_reducible refine (H2.out _).mono ?_);intro _) | (go_at_call 66;(with_reducible refine (H3.out _).mono ?_);intro _) | (go_at_call 66;(with_reducible refine (H4.out _).mono ?_);intro _))
   go_ret
   exact ⟨rfl,(by repeat (first | with_reducible exact Up.refl _ | with_reducible apply Up.plus | apply Up.ext | apply Up.alloc | apply Up.drew | (refine Up.setCell ?_ (by simp;try omega) _)))⟩
set_option maxRecDepth 100000 in
set_option maxHeartbeats 4000000 in
theorem oof_any (x0 x1 y0 y1 u0 u1 v0 v1:Int) (w:World):Gives Tryz.prog 75 #[.agg #[.int .i64 (x0),.int .i64 (x1),.int .i64 (y0),.int .i64 (y1),.int .i64 (u0),.int .i64 (u1),.int .i64 (v0),.int .i64 (v1)]] w (.agg #[.int .i64 (x0),.int .i64 (x1),.int .i64 (y0),.int .i64 (y1),.int .i64 (u0),.int .i64 (u1),.int .i64 (v0),.int .i64 (v1)]):=by
 (unfold Gives;go_enter Tryz.func75,Tryz.ntmps75)
 go_wp2
 all_goals (refine bodyPost_give (by repeat (first | with_reducible exact Up.refl _ | with_reducible apply Up.plus | apply Up.ext | apply Up.alloc | apply Up.drew | (refine Up.setCell ?_ (by simp;try omega) _))) rfl ⟨_,(by simp [results,Tryz.results75,go_sem];rfl),?_⟩)
 all_goals rfl
@[go_sem] theorem index_spans0 (x0 x1 y0 y1 u0 u1 v0 v1:Int) (w:World):(Instr.index 149 (.agg #[.int .i64 (x0),.int .i64 (x1),.int .i64 (y0),.int .i64 (y1),.int .i64 (u0),.int .i64 (u1),.int .i64 (v0),.int .i64 (v1)]) (.int .i64 0)).run Tryz.prog w = .ok (.agg #[.int .i64 (x0),.int .i64 (x1)]) w:=by kernel_rfl
@[go_sem] theorem index_spans1 (x0 x1 y0 y1 u0 u1 v0 v1:Int) (w:World):(Instr.index 149 (.agg #[.int .i64 (x0),.int .i64 (x1),.int .i64 (y0),.int .i64 (y1),.int .i64 (u0),.int .i64 (u1),.int .i64 (v0),.int .i64 (v1)]) (.int .i64 1)).run Tryz.prog w = .ok (.agg #[.int .i64 (y0),.int .i64 (y1)]) w:=by kernel_rfl
@[go_sem] theorem index_spans2 (x0 x1 y0 y1 u0 u1 v0 v1:Int) (w:World):(Instr.index 149 (.agg #[.int .i64 (x0),.int .i64 (x1),.int .i64 (y0),.int .i64 (y1),.int .i64 (u0),.int .i64 (u1),.int .i64 (v0),.int .i64 (v1)]) (.int .i64 2)).run Tryz.prog w = .ok (.agg #[.int .i64 (u0),.int .i64 (u1)]) w:=by kernel_rfl
@[go_sem] theorem index_spans3 (x0 x1 y0 y1 u0 u1 v0 v1:Int) (w:World):(Instr.index 149 (.agg #[.int .i64 (x0),.int .i64 (x1),.int .i64 (y0),.int .i64 (y1),.int .i64 (u0),.int .i64 (u1),.int .i64 (v0),.int .i64 (v1)]) (.int .i64 3)).run Tryz.prog w = .ok (.agg #[.int .i64 (v0),.int .i64 (v1)]) w:=by kernel_rfl
set_option maxRecDepth 100000 in
set_option maxHeartbeats 4000000 in
theorem oadd_any {a b c d:Int} (h1:-4000000000000000000 ≤ a ∧ a ≤ 4000000000000000000) (h2:-4000000000000000000 ≤ b ∧ b ≤ 4000000000000000000) (h3:-4000000000000000000 ≤ c ∧ c ≤ 4000000000000000000) (h4:-4000000000000000000 ≤ d ∧ d ≤ 4000000000000000000) (w:World):Gives Tryz.prog 171 #[.agg #[.int .i64 (a),.int .i64 (b)],.agg #[.int .i64 (c),.int .i64 (d)]] w (.agg #[.int .i64 ((a + c)),.int .i64 ((b + d))]):=by
 (unfold Gives;go_enter Tryz.func171,Tryz.ntmps171)
 go_wp2
 all_goals (refine bodyPost_give (by repeat (first | with_reducible exact Up.refl _ | with_reducible apply Up.plus | apply Up.ext | apply Up.alloc | apply Up.drew | (refine Up.setCell ?_ (by simp;try omega) _))) rfl ⟨_,(by simp [results,Tryz.results171,go_sem];rfl),?_⟩)
 all_goals rfl
set_option maxRecDepth 100000 in
set_option maxHeartbeats 4000000 in
theorem obox_any (b:BoxD) (w:World):Gives Tryz.prog 170 #[.agg (boxA b)] w (.int .i64 (boxE b)):=by
 obtain ⟨x0,x1,y0,y1,u0,u1,v0,v1⟩:=b
 have HO:=hide (fun W=>oof_any x0 x1 y0 y1 u0 u1 v0 v1 W)
 have HL:=hide (fun W=>ostate_any x0 y0 u0 v0 W)
 have HH:=hide (fun W=>ostate_any x1 y1 u1 v1 W)
 have s1:=stateE_two x0 y0 u0 v0
 have s2:=stateE_two x1 y1 u1 v1
 unfold boxE fullB boxA
 dsimp only
 generalize stateE x0 y0 u0 v0 = L at *
 generalize stateE x1 y1 u1 v1 = M at *
 by_cases h1:x0 ≤ x1
 rotate_left
 · have d1:decide (x1 < x0) = true:=decide_eq_true (by omega)
   rw [decide_eq_false h1,Bool.false_and,if_neg (by simp)]
   clear s1 s2
   (unfold Gives;go_enter Tryz.func170,Tryz.ntmps170)
   go_wp2_with (go_at_call 75;(with_reducible refine (HO.out _).mono ?_);intro _)
   refine wp_loop_rounds 5 ?_
   rw [rounds_succ]
   go_wp2
   go_ret
   exact ⟨rfl,(by repeat (first | with_reducible exact Up.refl _ | with_reducible apply Up.plus | apply Up.ext | apply Up.alloc | apply Up.drew | (refine Up.setCell ?_ (by simp;try omega) _)))⟩
 have d1:decide (x1 < x0) = false:=decide_eq_false (by omega)
 rw [decide_eq_true h1,Bool.true_and]
 by_cases h2:y0 ≤ y1
 rotate_left
 · have d2:decide (y1 < y0) = true:=decide_eq_true (by omega)
   rw [decide_eq_false h2,Bool.false_and,if_neg (by simp)]
   clear s1 s2
   (unfold Gives;go_enter Tryz.func170,Tryz.ntmps170)
   go_wp2_with (go_at_call 75;(with_reducible refine (HO.out _).mono ?_);intro _)
   refine wp_loop_rounds 5 ?_
   iterate 2 (rw [rounds_succ];go_wp2_with fail)
   go_ret
   exact ⟨rfl,(by repeat (first | with_reducible exact Up.refl _ | with_reducible apply Up.plus | apply Up.ext | apply Up.alloc | apply Up.drew | (refine Up.setCell ?_ (by simp;try omega) _)))⟩
 have d2:decide (y1 < y0) = false:=decide_eq_false (by omega)
 rw [decide_eq_true h2,Bool.true_and]
 by_cases h3:u0 ≤ u1
 rotate_left
 · have d3:decide (u1 < u0) = true:=decide_eq_true (by omega)
   rw [decide_eq_false h3,Bool.false_and,if_neg (by simp)]
   clear s1 s2
   (unfold Gives;go_enter Tryz.func170,Tryz.ntmps170)
   go_wp2_with (go_at_call 75;(with_reducible refine (HO.out _).mono ?_);intro _)
   refine wp_loop_rounds 5 ?_
   iterate 3 (rw [rounds_succ];go_wp2_with fail)
   go_ret
   exact ⟨rfl,(by repeat (first | with_reducible exact Up.refl _ | with_reducible apply Up.plus | apply Up.ext | apply Up.alloc | apply Up.drew | (refine Up.setCell ?_ (by simp;try omega) _)))⟩
 have d3:decide (u1 < u0) = false:=decide_eq_false (by omega)
 rw [decide_eq_true h3,Bool.true_and]
 by_cases h4:v0 ≤ v1
 rotate_left
 · have d4:decide (v1 < v0) = true:=decide_eq_true (by omega)
   rw [decide_eq_false h4,if_neg (by simp)]
   clear s1 s2
   (unfold Gives;go_enter Tryz.func170,Tryz.ntmps170)
   go_wp2_with (go_at_call 75;(with_reducible refine (HO.out _).mono ?_);intro _)
   refine wp_loop_rounds 5 ?_
   iterate 4 (rw [rounds_succ];go_wp2_with fail)
   go_ret
   exact ⟨rfl,(by repeat (first | with_reducible exact Up.refl _ | with_reducible apply Up.plus | apply Up.ext | apply Up.alloc | apply Up.drew | (refine Up.setCell ?_ (by simp;try omega) _)))⟩
 have d4:decide (v1 < v0) = false:=decide_eq_false (by omega)
 rw [decide_eq_true h4,if_pos rfl]
 have hE:(if L = 0 then if M = 0 then (0:Int) else 2 else 2) = max L M:=by
  rcases s1 with rfl | rfl <;> rcases s2 with rfl | rfl <;> rfl
 rw [hE]
 have hLM:0 ≤ L ∧ L ≤ 2 ∧ 0 ≤ M ∧ M ≤ 2:=by omega
 clear s1 s2 hE h1 h2 h3 h4
 (unfold Gives;go_enter Tryz.func170,Tryz.ntmps170)
 go_wp2_with (go_at_call 75;(with_reducible refine (HO.out _).mono ?_);intro _)
 refine wp_loop_rounds 5 ?_
 iterate 5 (rw [rounds_succ];go_wp2_with fail)
 refine forgetW (fun V=>Up w V ∧ Box V w.heap.size #[.int .i64 (x0),.int .i64 (x1),.int .i64 (y0),.int .i64 (y1),.int .i64 (u0),.int .i64 (u1),.int .i64 (v0),.int .i64 (v1)] 69) ⟨(by repeat (first | with_reducible exact Up.refl _ | with_reducible apply Up.plus | apply Up.ext | apply Up.alloc | apply Up.drew | (refine Up.setCell ?_ (by simp;try omega) _))),(by repeat (first | exact Box.mk rfl | (refine Box.mk ?_;simp;done) | apply Box.ext | apply Box.drew | apply Box.alloc | apply Box.two1 | (refine Box.other ?_ (by omega) _ _)))⟩ ?_
 rintro V ⟨hu,hb⟩
 have c0:=hb.cell 0 rfl
 have c1:=hb.cell 1 rfl
 have c2:=hb.cell 2 rfl
 have c3:=hb.cell 3 rfl
 have c4:=hb.cell 4 rfl
 have c5:=hb.cell 5 rfl
 have c6:=hb.cell 6 rfl
 have c7:=hb.cell 7 rfl
 have lc:=hb.lt
 have HB:=hide hu
 clear hu hb
 ((first | with_reducible refine wp_region_ext2 (by kernel_rfl) (by kernel_rfl) ?_ | refine wp_region_ext (by kernel_rfl) (by kernel_rfl) ?_);(repeat (go_big_quiet_step ((first | (go_at_call 67;with_reducible exact Gives.inRegion (HL.out _)) | (go_at_call 67;with_reducible exact Gives.inRegion (HH.out _))))));refine wpQuiet_nil ?_;intro _ hw';obtain ⟨_,hw''⟩:=hw';subst hw'')
 go_wp2
 go_ret
 exact ⟨rfl,(by repeat (first | with_reducible exact HB.out | with_reducible exact Up.refl _ | apply Up.ext | apply Up.alloc | apply Up.drew | (refine Up.setCell ?_ (by simp [World.setCell];try omega) _)))⟩
end Go.Proofs.YteafglginnonnaaGreat
/- Package orbit: sets, worlds with a drift, the step of a box. Conditions: what lies in memory, a valid box. -/
namespace Go.Proofs.YteafglginnonnaaGreat
set_option linter.unusedVariables false
set_option linter.unusedSimpArgs false
open Go.RowKit Go.Shelf
set_option maxRecDepth 100000 in
set_option maxHeartbeats 4000000 in
theorem oset_any {K:Nat → Prop} {w:World} {a:Option Addr} {n c:Nat} {l:List BoxD} (hl:Boxes K w (.slice a n c) l):Gives Tryz.prog 130 #[.slice a n c] w (.int .i64 (setE l)):=by
 have hn:=(Boxes.at hl).1
 have hm:=(Boxes.at hl).2.1
 by_cases z5:512 < n
 · have hE:setE l = 8:=by unfold setE;rw [if_pos (by omega)]
   rw [hE]
   have d0:decide ((512:Int) < n) = true:=by simp;omega
   have d1:decide (512 < n) = true:=by simp;omega
   clear hE hl hn
   (unfold Gives;go_enter Tryz.func130,Tryz.ntmps130)
   go_wp2
   go_ret
   exact ⟨rfl,(by repeat (first | with_reducible exact Up.refl _ | with_reducible apply Up.plus | apply Up.ext | apply Up.alloc | apply Up.drew | (refine Up.setCell ?_ (by simp;try omega) _)))⟩
 have hE:setE l = firstE boxE l:=by unfold setE;rw [if_neg (by omega)]
 rw [hE]
 have d0:decide ((512:Int) < n) = false:=by simp;omega
 have HL:=hide hl
 have HN:=hide hn
 clear hE hl hn
 (unfold Gives;go_enter Tryz.func130,Tryz.ntmps130)
 go_wp2
 go_loopw [11] (fun s wr=>∃ k:Nat,k ≤ n ∧ s = .int .i64 k ∧ Hid (Up w wr ∧ noneYet (fun x=>boxE x != 0) l k)) (fun s _=>n - (intOf s).toNat)
 case atStart=>exact ⟨0,by omega,rfl,hide ⟨Up.refl _,fun i p hi _=>by omega⟩⟩
 case round =>
  obtain ⟨k,hk,rfl,HI⟩:=hrel
  by_cases hlt:k < n
  · obtain ⟨b,o,p,rfl,hKb,hbw,hp,c0,c1,c2,c3,c4,c5,c6,c7⟩:=(Boxes.at (HL.out.keeps (HI.out.1.keeps K))).2.2 k hlt
    have hkb:decide ((k:Int) < n) = true:=by simp;omega
    have HP:=hide hp
    clear hp hKb
    by_cases hF:boxE p = 0
    · have hF':(boxE p != 0) = false:=by simp [hF]
      have HS:=hide hF
      clear hF
      go_wp2_with (go_at_call 170;(with_reducible refine (obox_any _ _).mono ?_);intro _)
      go_roundw
      case rel=>exact ⟨k + 1,by omega,by go_num,hide ⟨HI.out.1.trans (by repeat (first | with_reducible exact Up.refl _ | with_reducible apply Up.plus | apply Up.ext | apply Up.alloc | apply Up.drew | (refine Up.setCell ?_ (by simp;try omega) _))),HI.out.2.succ HP.out (by simpa using HS.out)⟩⟩
      case measure=>simp [intOf];omega
    · have hF':(boxE p != 0) = true:=by simp [hF]
      have HS:=hide hF
      clear hF
      go_wp2_with (go_at_call 170;(with_reducible refine (obox_any _ _).mono ?_);intro _)
      go_ret
      refine ⟨ret_int ?_,HI.out.1.trans (by repeat (first | with_reducible exact Up.refl _ | with_reducible apply Up.plus | apply Up.ext | apply Up.alloc | apply Up.drew | (refine Up.setCell ?_ (by simp;try omega) _)))⟩
      rw [firstE_found HI.out.2 HP.out HS.out]
  · have hkb:decide ((k:Int) < n) = false:=by simp;omega
    obtain rfl:k = n:=by omega
    have HF:=hide (show firstE boxE l = 0 from firstE_none (by rw [← HN.out];exact HI.out.2))
    go_wp2
    go_ret
    exact ⟨ret_int (by rw [HF.out]),HI.out.1.trans (by repeat (first | with_reducible exact Up.refl _ | with_reducible apply Up.plus | apply Up.ext | apply Up.alloc | apply Up.drew | (refine Up.setCell ?_ (by simp;try omega) _)))⟩
set_option maxRecDepth 100000 in
set_option maxHeartbeats 4000000 in
theorem oworld_any {K:Nat → Prop} {w:World} {a:Option Addr} {n c:Nat} {bs:List Bod} {home:Int} (hl:Bods K w (.slice a n c) bs) (hh:I64 home) (d:DriftD):Gives Tryz.prog 65 #[.agg #[.slice a n c,.int .i64 home],.agg #[.int .i64 (d.l.1),.int .i64 (d.l.2),.int .i64 (d.h.1),.int .i64 (d.h.2),.int .i64 (d.g)]] w (.int .i64 (worldDE bs home d)):=by
 have HW:=hide (fun W (hu:Up w W)=>skworld_any (hl.keeps (hu.keeps K)) hh)
 have HD:=hide (fun W=>fdrift_any d.l.1 d.l.2 d.h.1 d.h.2 d.g W)
 unfold worldDE
 rw [show driftE d.l d.h d.g = driftE (d.l.1,d.l.2) (d.h.1,d.h.2) d.g from rfl]
 generalize driftE (d.l.1,d.l.2) (d.h.1,d.h.2) d.g = D at *
 by_cases he:worldE bs home = 0
 · rw [if_pos he]
   rw [he] at HW
   clear hl hh he
   (unfold Gives;go_enter Tryz.func65,Tryz.ntmps65)
   go_wp2_with (first | (go_at_call 81;(with_reducible refine (HW.out _ (by repeat (first | with_reducible exact Up.refl _ | with_reducible apply Up.plus | apply Up.ext | apply Up.alloc | apply Up.drew | (refine Up.setCell ?_ (by simp;try omega) _)))).mono ?_);intro _) | (go_at_call 114;(with_reducible refine (HD.out _).mono ?_);intro _))
   go_ret
   exact ⟨rfl,(by repeat (first | with_reducible exact Up.refl _ | with_reducible apply Up.plus | apply Up.ext | apply Up.alloc | apply Up.drew | (refine Up.setCell ?_ (by simp;try omega) _)))⟩
 · rw [if_neg he]
   have heb:(worldE bs home != 0) = true:=by simp [he]
   generalize worldE bs home = E at *
   clear hl hh he
   (unfold Gives;go_enter Tryz.func65,Tryz.ntmps65)
   go_wp2_with (first | (go_at_call 81;(with_reducible refine (HW.out _ (by repeat (first | with_reducible exact Up.refl _ | with_reducible apply Up.plus | apply Up.ext | apply Up.alloc | apply Up.drew | (refine Up.setCell ?_ (by simp;try omega) _)))).mono ?_);intro _) | (go_at_call 114;(with_reducible refine (HD.out _).mono ?_);intro _))
   go_ret
   exact ⟨rfl,(by repeat (first | with_reducible exact Up.refl _ | with_reducible apply Up.plus | apply Up.ext | apply Up.alloc | apply Up.drew | (refine Up.setCell ?_ (by simp;try omega) _)))⟩
set_option maxRecDepth 100000 in
set_option maxHeartbeats 20000000 in
theorem ostep_any {K:Nat → Prop} {w:World} {a:Option Addr} {n c:Nat} {bs:List Bod} {home:Int} (hl:Bods K w (.slice a n c) bs) (hh:I64 home) (d:DriftD) (hw:worldDE bs home d = 0) {t:Int} (ht:0 ≤ t ∧ t ≤ 1073741824) {b:BoxD} (hb:BOk b):Gives Tryz.prog 131 #[.agg #[.slice a n c,.int .i64 home],.agg #[.int .i64 (d.l.1),.int .i64 (d.l.2),.int .i64 (d.h.1),.int .i64 (d.h.2),.int .i64 (d.g)],.int .i64 t,.agg (boxA b)] w (.tuple #[.agg (boxA (stepV bs d t b)),.bool (boxE (stepV bs d t b) == 0)]):=by
 have HO:=hide (fun W (hu:Up w W)=>fOver_any (hl.keeps (hu.keeps K)) hh d.l d.h d.g t (areaX b))
 rw [over_ok hw ht hb] at HO
 obtain ⟨a0,a1,a2,a3,hov,ha,hav,hst⟩:=step_bd (t:=t) hw hb
 rw [hov] at HO
 rw [hst]
 obtain ⟨x0,x1,y0,y1,u0,u1,v0,v1⟩:=b
 obtain ⟨bx,byy,bu,bv⟩:=hb
 unfold boxA areaX at *
 dsimp only at *
 have HU:=hide (fun W=>oadd_any (a:=u0) (b:=u1) (c:=a0) (d:=a1) (by omega) (by omega) (by omega) (by omega) W)
 have HV:=hide (fun W=>oadd_any (a:=v0) (b:=v1) (c:=a2) (d:=a3) (by omega) (by omega) (by omega) (by omega) W)
 have HX:=hide (fun W=>oadd_any (a:=x0) (b:=x1) (c:=u0 + a0) (d:=u1 + a1) (by omega) (by omega) (by omega) (by omega) W)
 have HY:=hide (fun W=>oadd_any (a:=y0) (b:=y1) (c:=v0 + a2) (d:=v1 + a3) (by omega) (by omega) (by omega) (by omega) W)
 generalize u0 + a0 = p0 at *
 generalize u1 + a1 = p1 at *
 generalize v0 + a2 = q0 at *
 generalize v1 + a3 = q1 at *
 generalize x0 + p0 = m0 at *
 generalize x1 + p1 = m1 at *
 generalize y0 + q0 = n0 at *
 generalize y1 + q1 = n1 at *
 have HC:=hide (fun W=>obox_any ⟨m0,m1,n0,n1,p0,p1,q0,q1⟩ W)
 unfold boxA at HC
 dsimp only at HC
 generalize boxE ⟨m0,m1,n0,n1,p0,p1,q0,q1⟩ = E at *
 clear hl hw ht hov ha hav hst bx byy bu bv
 (unfold Gives;go_enter Tryz.func131,Tryz.ntmps131)
 go_wp2_with fail
 go_at_call 157
 refine forgetK (fun wr=>Up w wr ∧ Box wr w.heap.size #[.slice a n c,.int .i64 home] 25 ∧ Box wr (w.heap.size + 1) #[.int .i64 (d.l.1),.int .i64 (d.l.2),.int .i64 (d.h.1),.int .i64 (d.h.2),.int .i64 (d.g)] 33 ∧ Box wr (w.heap.size + 1 + 1) #[.int .i64 (x0),.int .i64 (x1),.int .i64 (y0),.int .i64 (y1),.int .i64 (u0),.int .i64 (u1),.int .i64 (v0),.int .i64 (v1)] 69 ∧ Box wr (w.heap.size + 1 + 1 + 1) #[.int .i64 (0),.int .i64 (0),.int .i64 (0),.int .i64 (0),.int .i64 (0),.int .i64 (0),.int .i64 (0),.int .i64 (0)] 69) ⟨(by repeat (first | with_reducible exact Up.refl _ | with_reducible apply Up.plus | apply Up.ext | apply Up.alloc | apply Up.drew | (refine Up.setCell ?_ (by simp;try omega) _))),(by repeat (first | exact Box.mk rfl | (refine Box.mk ?_;simp;done) | apply Box.ext | apply Box.drew | apply Box.alloc | apply Box.two1 | (refine Box.other ?_ (by omega) _ _))),(by repeat (first | exact Box.mk rfl | (refine Box.mk ?_;simp;done) | apply Box.ext | apply Box.drew | apply Box.alloc | apply Box.two1 | (refine Box.other ?_ (by omega) _ _))),(by repeat (first | exact Box.mk rfl | (refine Box.mk ?_;simp;done) | apply Box.ext | apply Box.drew | apply Box.alloc | apply Box.two1 | (refine Box.other ?_ (by omega) _ _))),(by repeat (first | exact Box.mk rfl | (refine Box.mk ?_;simp;done) | apply Box.ext | apply Box.drew | apply Box.alloc | apply Box.two1 | (refine Box.other ?_ (by omega) _ _)))⟩ ?_
 rintro V0 ⟨hu,b0,b1,b2,b3⟩
 have HB0:=hide (And.intro hu (And.intro b0 (And.intro b1 (And.intro b2 b3))))
 clear hu b0 b1 b2 b3
 have w0:=(HB0.out.2.1).cell 0 rfl
 have w1:=(HB0.out.2.1).cell 1 rfl
 have lw:=(HB0.out.2.1).lt
 have dd0:=(HB0.out.2.2.1).cell 0 rfl
 have dd1:=(HB0.out.2.2.1).cell 1 rfl
 have dd2:=(HB0.out.2.2.1).cell 2 rfl
 have dd3:=(HB0.out.2.2.1).cell 3 rfl
 have dd4:=(HB0.out.2.2.1).cell 4 rfl
 have ldd:=(HB0.out.2.2.1).lt
 have b0:=(HB0.out.2.2.2.1).cell 0 rfl
 have b1:=(HB0.out.2.2.2.1).cell 1 rfl
 have b2:=(HB0.out.2.2.2.1).cell 2 rfl
 have b3:=(HB0.out.2.2.2.1).cell 3 rfl
 have b4:=(HB0.out.2.2.2.1).cell 4 rfl
 have b5:=(HB0.out.2.2.2.1).cell 5 rfl
 have b6:=(HB0.out.2.2.2.1).cell 6 rfl
 have b7:=(HB0.out.2.2.2.1).cell 7 rfl
 have lb:=(HB0.out.2.2.2.1).lt
 have z0:=(HB0.out.2.2.2.2).cell 0 rfl
 have z1:=(HB0.out.2.2.2.2).cell 1 rfl
 have z2:=(HB0.out.2.2.2.2).cell 2 rfl
 have z3:=(HB0.out.2.2.2.2).cell 3 rfl
 have z4:=(HB0.out.2.2.2.2).cell 4 rfl
 have z5:=(HB0.out.2.2.2.2).cell 5 rfl
 have z6:=(HB0.out.2.2.2.2).cell 6 rfl
 have z7:=(HB0.out.2.2.2.2).cell 7 rfl
 have lz:=(HB0.out.2.2.2.2).lt
 have fzz0:=(HB0.out.2.2.2.2).frozen 0
 have fzz1:=(HB0.out.2.2.2.2).frozen 1
 have fzz2:=(HB0.out.2.2.2.2).frozen 2
 have fzz3:=(HB0.out.2.2.2.2).frozen 3
 have fzz4:=(HB0.out.2.2.2.2).frozen 4
 have fzz5:=(HB0.out.2.2.2.2).frozen 5
 have fzz6:=(HB0.out.2.2.2.2).frozen 6
 have fzz7:=(HB0.out.2.2.2.2).frozen 7
 refine (HO.out _ (by repeat (first | with_reducible exact HB0.out.1 | with_reducible exact Up.refl _ | with_reducible apply Up.ext | with_reducible apply Up.alloc | with_reducible apply Up.drew | (with_reducible refine Up.setCell ?_ (by simp only;omega) _)))).mono ?_
 intro qa
 go_wp2_with fail
 obtain ⟨ga,hga⟩:∃ g,g = V0.heap.size + qa.os.size:=⟨_,rfl⟩
 try rw [← hga]
 have lga:w.heap.size + 1 + 1 + 1 < ga:=by omega
 refine forgetW (fun wr=>Up w wr ∧ Box wr w.heap.size #[.slice a n c,.int .i64 home] 25 ∧ Box wr (w.heap.size + 1) #[.int .i64 (d.l.1),.int .i64 (d.l.2),.int .i64 (d.h.1),.int .i64 (d.h.2),.int .i64 (d.g)] 33 ∧ Box wr (w.heap.size + 1 + 1) #[.int .i64 (x0),.int .i64 (x1),.int .i64 (y0),.int .i64 (y1),.int .i64 (u0),.int .i64 (u1),.int .i64 (v0),.int .i64 (v1)] 69 ∧ Box wr (w.heap.size + 1 + 1 + 1) #[.int .i64 (0),.int .i64 (0),.int .i64 (0),.int .i64 (0),.int .i64 (0),.int .i64 (0),.int .i64 (0),.int .i64 (0)] 69 ∧ Box wr ga #[.int .i64 (a0),.int .i64 (a1),.int .i64 (a2),.int .i64 (a3)] 61) ⟨(by repeat (first | with_reducible exact HB0.out.1 | with_reducible exact Up.refl _ | with_reducible apply Up.ext | with_reducible apply Up.alloc | with_reducible apply Up.drew | (with_reducible refine Up.setCell ?_ (by simp only;omega) _))),(by repeat (first | with_reducible exact HB0.out.2.1 | with_reducible apply Box.ext | with_reducible apply Box.alloc | with_reducible apply Box.drew | (with_reducible refine Box.other ?_ (by omega) _ _))),(by repeat (first | with_reducible exact HB0.out.2.2.1 | with_reducible apply Box.ext | with_reducible apply Box.alloc | with_reducible apply Box.drew | (with_reducible refine Box.other ?_ (by omega) _ _))),(by repeat (first | with_reducible exact HB0.out.2.2.2.1 | with_reducible apply Box.ext | with_reducible apply Box.alloc | with_reducible apply Box.drew | (with_reducible refine Box.other ?_ (by omega) _ _))),(by repeat (first | with_reducible exact HB0.out.2.2.2.2 | with_reducible apply Box.ext | with_reducible apply Box.alloc | with_reducible apply Box.drew | (with_reducible refine Box.other ?_ (by omega) _ _))),by rw [hga];exact Box.mk (ext_size _ _)⟩ ?_
 clear HB0 w0 w1 lw dd0 dd1 dd2 dd3 dd4 ldd b0 b1 b2 b3 b4 b5 b6 b7 lb z0 z1 z2 z3 z4 z5 z6 z7 lz fzz0 fzz1 fzz2 fzz3 fzz4 fzz5 fzz6 fzz7
 clear hga
 rintro V1 ⟨hu,b0,b1,b2,b3,b4⟩
 have HB1:=hide (And.intro hu (And.intro b0 (And.intro b1 (And.intro b2 (And.intro b3 b4)))))
 clear hu b0 b1 b2 b3 b4
 have w0:=(HB1.out.2.1).cell 0 rfl
 have w1:=(HB1.out.2.1).cell 1 rfl
 have lw:=(HB1.out.2.1).lt
 have dd0:=(HB1.out.2.2.1).cell 0 rfl
 have dd1:=(HB1.out.2.2.1).cell 1 rfl
 have dd2:=(HB1.out.2.2.1).cell 2 rfl
 have dd3:=(HB1.out.2.2.1).cell 3 rfl
 have dd4:=(HB1.out.2.2.1).cell 4 rfl
 have ldd:=(HB1.out.2.2.1).lt
 have b0:=(HB1.out.2.2.2.1).cell 0 rfl
 have b1:=(HB1.out.2.2.2.1).cell 1 rfl
 have b2:=(HB1.out.2.2.2.1).cell 2 rfl
 have b3:=(HB1.out.2.2.2.1).cell 3 rfl
 have b4:=(HB1.out.2.2.2.1).cell 4 rfl
 have b5:=(HB1.out.2.2.2.1).cell 5 rfl
 have b6:=(HB1.out.2.2.2.1).cell 6 rfl
 have b7:=(HB1.out.2.2.2.1).cell 7 rfl
 have lb:=(HB1.out.2.2.2.1).lt
 have z0:=(HB1.out.2.2.2.2.1).cell 0 rfl
 have z1:=(HB1.out.2.2.2.2.1).cell 1 rfl
 have z2:=(HB1.out.2.2.2.2.1).cell 2 rfl
 have z3:=(HB1.out.2.2.2.2.1).cell 3 rfl
 have z4:=(HB1.out.2.2.2.2.1).cell 4 rfl
 have z5:=(HB1.out.2.2.2.2.1).cell 5 rfl
 have z6:=(HB1.out.2.2.2.2.1).cell 6 rfl
 have z7:=(HB1.out.2.2.2.2.1).cell 7 rfl
 have lz:=(HB1.out.2.2.2.2.1).lt
 have fzz0:=(HB1.out.2.2.2.2.1).frozen 0
 have fzz1:=(HB1.out.2.2.2.2.1).frozen 1
 have fzz2:=(HB1.out.2.2.2.2.1).frozen 2
 have fzz3:=(HB1.out.2.2.2.2.1).frozen 3
 have fzz4:=(HB1.out.2.2.2.2.1).frozen 4
 have fzz5:=(HB1.out.2.2.2.2.1).frozen 5
 have fzz6:=(HB1.out.2.2.2.2.1).frozen 6
 have fzz7:=(HB1.out.2.2.2.2.1).frozen 7
 have k0:=(HB1.out.2.2.2.2.2).cell 0 rfl
 have k1:=(HB1.out.2.2.2.2.2).cell 1 rfl
 have k2:=(HB1.out.2.2.2.2.2).cell 2 rfl
 have k3:=(HB1.out.2.2.2.2.2).cell 3 rfl
 have lk:=(HB1.out.2.2.2.2.2).lt
 refine wp_region_float (al:=[(10,12,#[.int .i64 (0),.int .i64 (0)],31),(11,13,#[.int .i64 (0),.int .i64 (0)],31)]) (mv:=fun _=>false) [12,13] [0,1,2,3,4,5,6,7,8,9] (by kernel_rfl) (by kernel_rfl) (makes2 ⟨_,rfl,rfl,fun _=>rfl,fun _ _=>by simp [go_sem]⟩ ⟨_,rfl,rfl,fun _=>rfl,fun _ _=>by simp [go_sem]⟩) (cls_ext _) (by first | exact drew_in2 _ _ | exact drew_in _) (Nat.le_refl _) ?_
 simp only [withOps,List.filterMap_cons,List.filterMap_nil,List.getElem?_toArray,List.getElem?_cons_zero,List.getElem?_cons_succ,Option.map_some]
 (repeat (first | (apply walkF_pure (base:=fun p:Ext=>ext _ p) rfl rfl rfl (by kernel_rfl);· (intro px K hK;go_big_quiet_op;first | exact hK | (apply Exists.intro;refine ⟨fun _=>?_,?_⟩;(· ((first | (go_at_call 171;with_reducible exact Gives.inFloat (HU.out _)) | (go_at_call 171;with_reducible exact Gives.inFloat (HV.out _)))));exact hK))) | (apply walkF_skip rfl;simp only [Act.put,List.setIfInBounds_toArray,List.set_cons_zero,List.set_cons_succ])))
 refine walkF_nil (end2 (by decide) (fun g1 g2 W2 hg1 hg2 hg12 hW2 z1 z2=>?_))
 simp only [Act.put,List.setIfInBounds_toArray,List.set_cons_zero,List.set_cons_succ]
 (try simp only [List.filterMap_cons,List.filterMap_nil,List.getElem?_toArray,List.getElem?_cons_zero,List.getElem?_cons_succ])
 have hUp:Up V1 W2:=hW2
 have lg1:ga < g1:=by omega
 have lg2:ga < g2:=by omega
 have hg21:g2 ≠ g1:=fun e=>hg12 e.symm
 refine forgetW (fun wr=>Up w wr ∧ Box wr w.heap.size #[.slice a n c,.int .i64 home] 25 ∧ Box wr (w.heap.size + 1) #[.int .i64 (d.l.1),.int .i64 (d.l.2),.int .i64 (d.h.1),.int .i64 (d.h.2),.int .i64 (d.g)] 33 ∧ Box wr (w.heap.size + 1 + 1) #[.int .i64 (x0),.int .i64 (x1),.int .i64 (y0),.int .i64 (y1),.int .i64 (u0),.int .i64 (u1),.int .i64 (v0),.int .i64 (v1)] 69 ∧ Box wr (w.heap.size + 1 + 1 + 1) #[.int .i64 (0),.int .i64 (0),.int .i64 (0),.int .i64 (0),.int .i64 (0),.int .i64 (0),.int .i64 (0),.int .i64 (0)] 69 ∧ Box wr ga #[.int .i64 (a0),.int .i64 (a1),.int .i64 (a2),.int .i64 (a3)] 61 ∧ Box wr g1 #[.int .i64 (0),.int .i64 (0)] 31 ∧ Box wr g2 #[.int .i64 (0),.int .i64 (0)] 31) ⟨(HB1.out.1).trans hUp,(HB1.out.2.1).up hUp,(HB1.out.2.2.1).up hUp,(HB1.out.2.2.2.1).up hUp,(HB1.out.2.2.2.2.1).up hUp,(HB1.out.2.2.2.2.2).up hUp,z1,z2⟩ ?_
 clear HB1 w0 w1 lw dd0 dd1 dd2 dd3 dd4 ldd b0 b1 b2 b3 b4 b5 b6 b7 lb z0 z1 z2 z3 z4 z5 z6 z7 lz fzz0 fzz1 fzz2 fzz3 fzz4 fzz5 fzz6 fzz7 k0 k1 k2 k3 lk
 clear hUp
 rintro V2 ⟨hu,b0,b1,b2,b3,b4,b5,b6⟩
 have HB2:=hide (And.intro hu (And.intro b0 (And.intro b1 (And.intro b2 (And.intro b3 (And.intro b4 (And.intro b5 b6)))))))
 clear hu b0 b1 b2 b3 b4 b5 b6
 have w0:=(HB2.out.2.1).cell 0 rfl
 have w1:=(HB2.out.2.1).cell 1 rfl
 have lw:=(HB2.out.2.1).lt
 have dd0:=(HB2.out.2.2.1).cell 0 rfl
 have dd1:=(HB2.out.2.2.1).cell 1 rfl
 have dd2:=(HB2.out.2.2.1).cell 2 rfl
 have dd3:=(HB2.out.2.2.1).cell 3 rfl
 have dd4:=(HB2.out.2.2.1).cell 4 rfl
 have ldd:=(HB2.out.2.2.1).lt
 have b0:=(HB2.out.2.2.2.1).cell 0 rfl
 have b1:=(HB2.out.2.2.2.1).cell 1 rfl
 have b2:=(HB2.out.2.2.2.1).cell 2 rfl
 have b3:=(HB2.out.2.2.2.1).cell 3 rfl
 have b4:=(HB2.out.2.2.2.1).cell 4 rfl
 have b5:=(HB2.out.2.2.2.1).cell 5 rfl
 have b6:=(HB2.out.2.2.2.1).cell 6 rfl
 have b7:=(HB2.out.2.2.2.1).cell 7 rfl
 have lb:=(HB2.out.2.2.2.1).lt
 have z0:=(HB2.out.2.2.2.2.1).cell 0 rfl
 have z1:=(HB2.out.2.2.2.2.1).cell 1 rfl
 have z2:=(HB2.out.2.2.2.2.1).cell 2 rfl
 have z3:=(HB2.out.2.2.2.2.1).cell 3 rfl
 have z4:=(HB2.out.2.2.2.2.1).cell 4 rfl
 have z5:=(HB2.out.2.2.2.2.1).cell 5 rfl
 have z6:=(HB2.out.2.2.2.2.1).cell 6 rfl
 have z7:=(HB2.out.2.2.2.2.1).cell 7 rfl
 have lz:=(HB2.out.2.2.2.2.1).lt
 have fzz0:=(HB2.out.2.2.2.2.1).frozen 0
 have fzz1:=(HB2.out.2.2.2.2.1).frozen 1
 have fzz2:=(HB2.out.2.2.2.2.1).frozen 2
 have fzz3:=(HB2.out.2.2.2.2.1).frozen 3
 have fzz4:=(HB2.out.2.2.2.2.1).frozen 4
 have fzz5:=(HB2.out.2.2.2.2.1).frozen 5
 have fzz6:=(HB2.out.2.2.2.2.1).frozen 6
 have fzz7:=(HB2.out.2.2.2.2.1).frozen 7
 have k0:=(HB2.out.2.2.2.2.2.1).cell 0 rfl
 have k1:=(HB2.out.2.2.2.2.2.1).cell 1 rfl
 have k2:=(HB2.out.2.2.2.2.2.1).cell 2 rfl
 have k3:=(HB2.out.2.2.2.2.2.1).cell 3 rfl
 have lk:=(HB2.out.2.2.2.2.2.1).lt
 have r0:=(HB2.out.2.2.2.2.2.2.1).cell 0 rfl
 have r1:=(HB2.out.2.2.2.2.2.2.1).cell 1 rfl
 have lr:=(HB2.out.2.2.2.2.2.2.1).lt
 have fzr0:=(HB2.out.2.2.2.2.2.2.1).frozen 0
 have fzr1:=(HB2.out.2.2.2.2.2.2.1).frozen 1
 have s0:=(HB2.out.2.2.2.2.2.2.2).cell 0 rfl
 have s1:=(HB2.out.2.2.2.2.2.2.2).cell 1 rfl
 have ls:=(HB2.out.2.2.2.2.2.2.2).lt
 have fzs0:=(HB2.out.2.2.2.2.2.2.2).frozen 0
 have fzs1:=(HB2.out.2.2.2.2.2.2.2).frozen 1
 clear hW2 z1 z2 hg1 hg2
 go_wp2_with fail
 refine forgetW (fun wr=>Up w wr ∧ Box wr w.heap.size #[.slice a n c,.int .i64 home] 25 ∧ Box wr (w.heap.size + 1) #[.int .i64 (d.l.1),.int .i64 (d.l.2),.int .i64 (d.h.1),.int .i64 (d.h.2),.int .i64 (d.g)] 33 ∧ Box wr (w.heap.size + 1 + 1) #[.int .i64 (x0),.int .i64 (x1),.int .i64 (y0),.int .i64 (y1),.int .i64 (u0),.int .i64 (u1),.int .i64 (v0),.int .i64 (v1)] 69 ∧ Box wr (w.heap.size + 1 + 1 + 1) #[.int .i64 (0),.int .i64 (0),.int .i64 (0),.int .i64 (0),.int .i64 (0),.int .i64 (0),.int .i64 (0),.int .i64 (0)] 69 ∧ Box wr g1 #[.int .i64 (p0),.int .i64 (p1)] 31 ∧ Box wr g2 #[.int .i64 (q0),.int .i64 (q1)] 31) ⟨(by repeat (first | with_reducible exact HB2.out.1 | with_reducible exact Up.refl _ | with_reducible apply Up.ext | with_reducible apply Up.alloc | with_reducible apply Up.drew | (with_reducible refine Up.setCell ?_ (by simp only;omega) _))),(by repeat (first | with_reducible exact HB2.out.2.1 | with_reducible apply Box.ext | with_reducible apply Box.alloc | with_reducible apply Box.drew | (with_reducible refine Box.other ?_ (by omega) _ _))),(by repeat (first | with_reducible exact HB2.out.2.2.1 | with_reducible apply Box.ext | with_reducible apply Box.alloc | with_reducible apply Box.drew | (with_reducible refine Box.other ?_ (by omega) _ _))),(by repeat (first | with_reducible exact HB2.out.2.2.2.1 | with_reducible apply Box.ext | with_reducible apply Box.alloc | with_reducible apply Box.drew | (with_reducible refine Box.other ?_ (by omega) _ _))),(by repeat (first | with_reducible exact HB2.out.2.2.2.2.1 | with_reducible apply Box.ext | with_reducible apply Box.alloc | with_reducible apply Box.drew | (with_reducible refine Box.other ?_ (by omega) _ _))),(by (repeat (first | with_reducible apply Box.ext | with_reducible apply Box.alloc | with_reducible apply Box.drew));exact ((((HB2.out.2.2.2.2.2.2.1).set 0 (.int .i64 p0)).set 1 (.int .i64 p1)).other hg12 _ _).other hg12 _ _),(by (repeat (first | with_reducible apply Box.ext | with_reducible apply Box.alloc | with_reducible apply Box.drew));exact ((((HB2.out.2.2.2.2.2.2.2).other hg21 _ _).other hg21 _ _).set 0 (.int .i64 q0)).set 1 (.int .i64 q1))⟩ ?_
 clear HB2 w0 w1 lw dd0 dd1 dd2 dd3 dd4 ldd b0 b1 b2 b3 b4 b5 b6 b7 lb z0 z1 z2 z3 z4 z5 z6 z7 lz fzz0 fzz1 fzz2 fzz3 fzz4 fzz5 fzz6 fzz7 k0 k1 k2 k3 lk r0 r1 lr fzr0 fzr1 s0 s1 ls fzs0 fzs1
 rintro V3 ⟨hu,b0,b1,b2,b3,b4,b5⟩
 have HB3:=hide (And.intro hu (And.intro b0 (And.intro b1 (And.intro b2 (And.intro b3 (And.intro b4 b5))))))
 clear hu b0 b1 b2 b3 b4 b5
 have w0:=(HB3.out.2.1).cell 0 rfl
 have w1:=(HB3.out.2.1).cell 1 rfl
 have lw:=(HB3.out.2.1).lt
 have dd0:=(HB3.out.2.2.1).cell 0 rfl
 have dd1:=(HB3.out.2.2.1).cell 1 rfl
 have dd2:=(HB3.out.2.2.1).cell 2 rfl
 have dd3:=(HB3.out.2.2.1).cell 3 rfl
 have dd4:=(HB3.out.2.2.1).cell 4 rfl
 have ldd:=(HB3.out.2.2.1).lt
 have b0:=(HB3.out.2.2.2.1).cell 0 rfl
 have b1:=(HB3.out.2.2.2.1).cell 1 rfl
 have b2:=(HB3.out.2.2.2.1).cell 2 rfl
 have b3:=(HB3.out.2.2.2.1).cell 3 rfl
 have b4:=(HB3.out.2.2.2.1).cell 4 rfl
 have b5:=(HB3.out.2.2.2.1).cell 5 rfl
 have b6:=(HB3.out.2.2.2.1).cell 6 rfl
 have b7:=(HB3.out.2.2.2.1).cell 7 rfl
 have lb:=(HB3.out.2.2.2.1).lt
 have z0:=(HB3.out.2.2.2.2.1).cell 0 rfl
 have z1:=(HB3.out.2.2.2.2.1).cell 1 rfl
 have z2:=(HB3.out.2.2.2.2.1).cell 2 rfl
 have z3:=(HB3.out.2.2.2.2.1).cell 3 rfl
 have z4:=(HB3.out.2.2.2.2.1).cell 4 rfl
 have z5:=(HB3.out.2.2.2.2.1).cell 5 rfl
 have z6:=(HB3.out.2.2.2.2.1).cell 6 rfl
 have z7:=(HB3.out.2.2.2.2.1).cell 7 rfl
 have lz:=(HB3.out.2.2.2.2.1).lt
 have fzz0:=(HB3.out.2.2.2.2.1).frozen 0
 have fzz1:=(HB3.out.2.2.2.2.1).frozen 1
 have fzz2:=(HB3.out.2.2.2.2.1).frozen 2
 have fzz3:=(HB3.out.2.2.2.2.1).frozen 3
 have fzz4:=(HB3.out.2.2.2.2.1).frozen 4
 have fzz5:=(HB3.out.2.2.2.2.1).frozen 5
 have fzz6:=(HB3.out.2.2.2.2.1).frozen 6
 have fzz7:=(HB3.out.2.2.2.2.1).frozen 7
 have r0:=(HB3.out.2.2.2.2.2.1).cell 0 rfl
 have r1:=(HB3.out.2.2.2.2.2.1).cell 1 rfl
 have lr:=(HB3.out.2.2.2.2.2.1).lt
 have fzr0:=(HB3.out.2.2.2.2.2.1).frozen 0
 have fzr1:=(HB3.out.2.2.2.2.2.1).frozen 1
 have s0:=(HB3.out.2.2.2.2.2.2).cell 0 rfl
 have s1:=(HB3.out.2.2.2.2.2.2).cell 1 rfl
 have ls:=(HB3.out.2.2.2.2.2.2).lt
 have fzs0:=(HB3.out.2.2.2.2.2.2).frozen 0
 have fzs1:=(HB3.out.2.2.2.2.2.2).frozen 1
 refine wp_region_float (al:=[(11,14,#[.int .i64 (0),.int .i64 (0),.int .i64 (0),.int .i64 (0),.int .i64 (0),.int .i64 (0),.int .i64 (0),.int .i64 (0)],69)]) (mv:=fun _=>false) [12] [0,1,2,3,4,5,6,7,8,9,10] (by kernel_rfl) (by kernel_rfl) (makes1 ⟨_,rfl,rfl,fun _=>rfl,fun _ _=>by simp [go_sem]⟩) (cls_ext _) (by first | exact drew_in2 _ _ | exact drew_in _) (Nat.le_refl _) ?_
 simp only [withOps,List.filterMap_cons,List.filterMap_nil,List.getElem?_toArray,List.getElem?_cons_zero,List.getElem?_cons_succ,Option.map_some]
 (repeat (first | (apply walkF_pure (base:=fun p:Ext=>ext _ p) rfl rfl rfl (by kernel_rfl);· (intro px K hK;go_big_quiet_op;first | exact hK | (apply Exists.intro;refine ⟨fun _=>?_,?_⟩;(· ((first | (go_at_call 171;with_reducible exact Gives.inFloat (HX.out _)) | (go_at_call 171;with_reducible exact Gives.inFloat (HY.out _)))));exact hK))) | (apply walkF_skip rfl;simp only [Act.put,List.setIfInBounds_toArray,List.set_cons_zero,List.set_cons_succ])))
 refine walkF_nil (end1 (fun g3 W3 hg3 hW3 z3=>?_))
 simp only [Act.put,List.setIfInBounds_toArray,List.set_cons_zero,List.set_cons_succ]
 (try simp only [List.filterMap_cons,List.filterMap_nil,List.getElem?_toArray,List.getElem?_cons_zero,List.getElem?_cons_succ])
 have hUp:Up V3 W3:=hW3
 have lg3:g1 < g3:=by omega
 have lg4:g2 < g3:=by omega
 refine forgetW (fun wr=>Up w wr ∧ Box wr w.heap.size #[.slice a n c,.int .i64 home] 25 ∧ Box wr (w.heap.size + 1) #[.int .i64 (d.l.1),.int .i64 (d.l.2),.int .i64 (d.h.1),.int .i64 (d.h.2),.int .i64 (d.g)] 33 ∧ Box wr (w.heap.size + 1 + 1) #[.int .i64 (x0),.int .i64 (x1),.int .i64 (y0),.int .i64 (y1),.int .i64 (u0),.int .i64 (u1),.int .i64 (v0),.int .i64 (v1)] 69 ∧ Box wr (w.heap.size + 1 + 1 + 1) #[.int .i64 (0),.int .i64 (0),.int .i64 (0),.int .i64 (0),.int .i64 (0),.int .i64 (0),.int .i64 (0),.int .i64 (0)] 69 ∧ Box wr g1 #[.int .i64 (p0),.int .i64 (p1)] 31 ∧ Box wr g2 #[.int .i64 (q0),.int .i64 (q1)] 31 ∧ Box wr g3 #[.int .i64 (0),.int .i64 (0),.int .i64 (0),.int .i64 (0),.int .i64 (0),.int .i64 (0),.int .i64 (0),.int .i64 (0)] 69) ⟨(HB3.out.1).trans hUp,(HB3.out.2.1).up hUp,(HB3.out.2.2.1).up hUp,(HB3.out.2.2.2.1).up hUp,(HB3.out.2.2.2.2.1).up hUp,(HB3.out.2.2.2.2.2.1).up hUp,(HB3.out.2.2.2.2.2.2).up hUp,z3⟩ ?_
 clear HB3 w0 w1 lw dd0 dd1 dd2 dd3 dd4 ldd b0 b1 b2 b3 b4 b5 b6 b7 lb z0 z1 z2 z3 z4 z5 z6 z7 lz fzz0 fzz1 fzz2 fzz3 fzz4 fzz5 fzz6 fzz7 r0 r1 lr fzr0 fzr1 s0 s1 ls fzs0 fzs1
 clear hUp
 rintro V4 ⟨hu,b0,b1,b2,b3,b4,b5,b6⟩
 have HB4:=hide (And.intro hu (And.intro b0 (And.intro b1 (And.intro b2 (And.intro b3 (And.intro b4 (And.intro b5 b6)))))))
 clear hu b0 b1 b2 b3 b4 b5 b6
 have w0:=(HB4.out.2.1).cell 0 rfl
 have w1:=(HB4.out.2.1).cell 1 rfl
 have lw:=(HB4.out.2.1).lt
 have dd0:=(HB4.out.2.2.1).cell 0 rfl
 have dd1:=(HB4.out.2.2.1).cell 1 rfl
 have dd2:=(HB4.out.2.2.1).cell 2 rfl
 have dd3:=(HB4.out.2.2.1).cell 3 rfl
 have dd4:=(HB4.out.2.2.1).cell 4 rfl
 have ldd:=(HB4.out.2.2.1).lt
 have b0:=(HB4.out.2.2.2.1).cell 0 rfl
 have b1:=(HB4.out.2.2.2.1).cell 1 rfl
 have b2:=(HB4.out.2.2.2.1).cell 2 rfl
 have b3:=(HB4.out.2.2.2.1).cell 3 rfl
 have b4:=(HB4.out.2.2.2.1).cell 4 rfl
 have b5:=(HB4.out.2.2.2.1).cell 5 rfl
 have b6:=(HB4.out.2.2.2.1).cell 6 rfl
 have b7:=(HB4.out.2.2.2.1).cell 7 rfl
 have lb:=(HB4.out.2.2.2.1).lt
 have z0:=(HB4.out.2.2.2.2.1).cell 0 rfl
 have z1:=(HB4.out.2.2.2.2.1).cell 1 rfl
 have z2:=(HB4.out.2.2.2.2.1).cell 2 rfl
 have z3:=(HB4.out.2.2.2.2.1).cell 3 rfl
 have z4:=(HB4.out.2.2.2.2.1).cell 4 rfl
 have z5:=(HB4.out.2.2.2.2.1).cell 5 rfl
 have z6:=(HB4.out.2.2.2.2.1).cell 6 rfl
 have z7:=(HB4.out.2.2.2.2.1).cell 7 rfl
 have lz:=(HB4.out.2.2.2.2.1).lt
 have fzz0:=(HB4.out.2.2.2.2.1).frozen 0
 have fzz1:=(HB4.out.2.2.2.2.1).frozen 1
 have fzz2:=(HB4.out.2.2.2.2.1).frozen 2
 have fzz3:=(HB4.out.2.2.2.2.1).frozen 3
 have fzz4:=(HB4.out.2.2.2.2.1).frozen 4
 have fzz5:=(HB4.out.2.2.2.2.1).frozen 5
 have fzz6:=(HB4.out.2.2.2.2.1).frozen 6
 have fzz7:=(HB4.out.2.2.2.2.1).frozen 7
 have r0:=(HB4.out.2.2.2.2.2.1).cell 0 rfl
 have r1:=(HB4.out.2.2.2.2.2.1).cell 1 rfl
 have lr:=(HB4.out.2.2.2.2.2.1).lt
 have fzr0:=(HB4.out.2.2.2.2.2.1).frozen 0
 have fzr1:=(HB4.out.2.2.2.2.2.1).frozen 1
 have s0:=(HB4.out.2.2.2.2.2.2.1).cell 0 rfl
 have s1:=(HB4.out.2.2.2.2.2.2.1).cell 1 rfl
 have ls:=(HB4.out.2.2.2.2.2.2.1).lt
 have fzs0:=(HB4.out.2.2.2.2.2.2.1).frozen 0
 have fzs1:=(HB4.out.2.2.2.2.2.2.1).frozen 1
 have o0:=(HB4.out.2.2.2.2.2.2.2).cell 0 rfl
 have o1:=(HB4.out.2.2.2.2.2.2.2).cell 1 rfl
 have o2:=(HB4.out.2.2.2.2.2.2.2).cell 2 rfl
 have o3:=(HB4.out.2.2.2.2.2.2.2).cell 3 rfl
 have o4:=(HB4.out.2.2.2.2.2.2.2).cell 4 rfl
 have o5:=(HB4.out.2.2.2.2.2.2.2).cell 5 rfl
 have o6:=(HB4.out.2.2.2.2.2.2.2).cell 6 rfl
 have o7:=(HB4.out.2.2.2.2.2.2.2).cell 7 rfl
 have lo:=(HB4.out.2.2.2.2.2.2.2).lt
 have fzo0:=(HB4.out.2.2.2.2.2.2.2).frozen 0
 have fzo1:=(HB4.out.2.2.2.2.2.2.2).frozen 1
 have fzo2:=(HB4.out.2.2.2.2.2.2.2).frozen 2
 have fzo3:=(HB4.out.2.2.2.2.2.2.2).frozen 3
 have fzo4:=(HB4.out.2.2.2.2.2.2.2).frozen 4
 have fzo5:=(HB4.out.2.2.2.2.2.2.2).frozen 5
 have fzo6:=(HB4.out.2.2.2.2.2.2.2).frozen 6
 have fzo7:=(HB4.out.2.2.2.2.2.2.2).frozen 7
 clear hW3 z3 hg3
 go_wp2_with fail
 refine forgetW (fun wr=>Up w wr ∧ Box wr w.heap.size #[.slice a n c,.int .i64 home] 25 ∧ Box wr (w.heap.size + 1) #[.int .i64 (d.l.1),.int .i64 (d.l.2),.int .i64 (d.h.1),.int .i64 (d.h.2),.int .i64 (d.g)] 33 ∧ Box wr (w.heap.size + 1 + 1) #[.int .i64 (x0),.int .i64 (x1),.int .i64 (y0),.int .i64 (y1),.int .i64 (u0),.int .i64 (u1),.int .i64 (v0),.int .i64 (v1)] 69 ∧ Box wr (w.heap.size + 1 + 1 + 1) #[.int .i64 (0),.int .i64 (0),.int .i64 (0),.int .i64 (0),.int .i64 (0),.int .i64 (0),.int .i64 (0),.int .i64 (0)] 69 ∧ Box wr g3 #[.int .i64 (m0),.int .i64 (m1),.int .i64 (n0),.int .i64 (n1),.int .i64 (p0),.int .i64 (p1),.int .i64 (q0),.int .i64 (q1)] 69) ⟨(by repeat (first | with_reducible exact HB4.out.1 | with_reducible exact Up.refl _ | with_reducible apply Up.ext | with_reducible apply Up.alloc | with_reducible apply Up.drew | (with_reducible refine Up.setCell ?_ (by simp only;omega) _))),(by repeat (first | with_reducible exact HB4.out.2.1 | with_reducible apply Box.ext | with_reducible apply Box.alloc | with_reducible apply Box.drew | (with_reducible refine Box.other ?_ (by omega) _ _))),(by repeat (first | with_reducible exact HB4.out.2.2.1 | with_reducible apply Box.ext | with_reducible apply Box.alloc | with_reducible apply Box.drew | (with_reducible refine Box.other ?_ (by omega) _ _))),(by repeat (first | with_reducible exact HB4.out.2.2.2.1 | with_reducible apply Box.ext | with_reducible apply Box.alloc | with_reducible apply Box.drew | (with_reducible refine Box.other ?_ (by omega) _ _))),(by repeat (first | with_reducible exact HB4.out.2.2.2.2.1 | with_reducible apply Box.ext | with_reducible apply Box.alloc | with_reducible apply Box.drew | (with_reducible refine Box.other ?_ (by omega) _ _))),(by (repeat (first | with_reducible apply Box.ext | with_reducible apply Box.alloc | with_reducible apply Box.drew));exact ((((((((HB4.out.2.2.2.2.2.2.2).set 0 (.int .i64 m0)).set 1 (.int .i64 m1)).set 2 (.int .i64 n0)).set 3 (.int .i64 n1)).set 4 (.int .i64 p0)).set 5 (.int .i64 p1)).set 6 (.int .i64 q0)).set 7 (.int .i64 q1))⟩ ?_
 clear HB4 w0 w1 lw dd0 dd1 dd2 dd3 dd4 ldd b0 b1 b2 b3 b4 b5 b6 b7 lb z0 z1 z2 z3 z4 z5 z6 z7 lz fzz0 fzz1 fzz2 fzz3 fzz4 fzz5 fzz6 fzz7 r0 r1 lr fzr0 fzr1 s0 s1 ls fzs0 fzs1 o0 o1 o2 o3 o4 o5 o6 o7 lo fzo0 fzo1 fzo2 fzo3 fzo4 fzo5 fzo6 fzo7
 rintro V5 ⟨hu,b0,b1,b2,b3,b4⟩
 have HB5:=hide (And.intro hu (And.intro b0 (And.intro b1 (And.intro b2 (And.intro b3 b4)))))
 clear hu b0 b1 b2 b3 b4
 have w0:=(HB5.out.2.1).cell 0 rfl
 have w1:=(HB5.out.2.1).cell 1 rfl
 have lw:=(HB5.out.2.1).lt
 have dd0:=(HB5.out.2.2.1).cell 0 rfl
 have dd1:=(HB5.out.2.2.1).cell 1 rfl
 have dd2:=(HB5.out.2.2.1).cell 2 rfl
 have dd3:=(HB5.out.2.2.1).cell 3 rfl
 have dd4:=(HB5.out.2.2.1).cell 4 rfl
 have ldd:=(HB5.out.2.2.1).lt
 have b0:=(HB5.out.2.2.2.1).cell 0 rfl
 have b1:=(HB5.out.2.2.2.1).cell 1 rfl
 have b2:=(HB5.out.2.2.2.1).cell 2 rfl
 have b3:=(HB5.out.2.2.2.1).cell 3 rfl
 have b4:=(HB5.out.2.2.2.1).cell 4 rfl
 have b5:=(HB5.out.2.2.2.1).cell 5 rfl
 have b6:=(HB5.out.2.2.2.1).cell 6 rfl
 have b7:=(HB5.out.2.2.2.1).cell 7 rfl
 have lb:=(HB5.out.2.2.2.1).lt
 have z0:=(HB5.out.2.2.2.2.1).cell 0 rfl
 have z1:=(HB5.out.2.2.2.2.1).cell 1 rfl
 have z2:=(HB5.out.2.2.2.2.1).cell 2 rfl
 have z3:=(HB5.out.2.2.2.2.1).cell 3 rfl
 have z4:=(HB5.out.2.2.2.2.1).cell 4 rfl
 have z5:=(HB5.out.2.2.2.2.1).cell 5 rfl
 have z6:=(HB5.out.2.2.2.2.1).cell 6 rfl
 have z7:=(HB5.out.2.2.2.2.1).cell 7 rfl
 have lz:=(HB5.out.2.2.2.2.1).lt
 have fzz0:=(HB5.out.2.2.2.2.1).frozen 0
 have fzz1:=(HB5.out.2.2.2.2.1).frozen 1
 have fzz2:=(HB5.out.2.2.2.2.1).frozen 2
 have fzz3:=(HB5.out.2.2.2.2.1).frozen 3
 have fzz4:=(HB5.out.2.2.2.2.1).frozen 4
 have fzz5:=(HB5.out.2.2.2.2.1).frozen 5
 have fzz6:=(HB5.out.2.2.2.2.1).frozen 6
 have fzz7:=(HB5.out.2.2.2.2.1).frozen 7
 have o0:=(HB5.out.2.2.2.2.2).cell 0 rfl
 have o1:=(HB5.out.2.2.2.2.2).cell 1 rfl
 have o2:=(HB5.out.2.2.2.2.2).cell 2 rfl
 have o3:=(HB5.out.2.2.2.2.2).cell 3 rfl
 have o4:=(HB5.out.2.2.2.2.2).cell 4 rfl
 have o5:=(HB5.out.2.2.2.2.2).cell 5 rfl
 have o6:=(HB5.out.2.2.2.2.2).cell 6 rfl
 have o7:=(HB5.out.2.2.2.2.2).cell 7 rfl
 have lo:=(HB5.out.2.2.2.2.2).lt
 have fzo0:=(HB5.out.2.2.2.2.2).frozen 0
 have fzo1:=(HB5.out.2.2.2.2.2).frozen 1
 have fzo2:=(HB5.out.2.2.2.2.2).frozen 2
 have fzo3:=(HB5.out.2.2.2.2.2).frozen 3
 have fzo4:=(HB5.out.2.2.2.2.2).frozen 4
 have fzo5:=(HB5.out.2.2.2.2.2).frozen 5
 have fzo6:=(HB5.out.2.2.2.2.2).frozen 6
 have fzo7:=(HB5.out.2.2.2.2.2).frozen 7
 refine wp_region_floatz (al:=[]) (mv:=fun _=>false) 3 [4,5] [0,1,2,3] (by kernel_rfl) (by kernel_rfl) rfl (fun _=>rfl) (fun _ _ _ _ h=>h) makes0 (cls_ext _) (by first | exact drew_in2 _ _ | exact drew_in _) (Nat.le_refl _) ?_
 simp only [withOps,List.filterMap_cons,List.filterMap_nil,List.getElem?_toArray,List.getElem?_cons_zero,List.getElem?_cons_succ,Option.map_some]
 (repeat (first | (apply walkF_pure (base:=fun p:Ext=>ext _ p) rfl rfl rfl (by kernel_rfl);· (intro px K hK;go_big_quiet_op;first | exact hK | (apply Exists.intro;refine ⟨fun _=>?_,?_⟩;(· ((go_at_call 170;with_reducible exact Gives.inFloat (HC.out _))));exact hK))) | (apply walkF_skip rfl;simp only [Act.put,List.setIfInBounds_toArray,List.set_cons_zero,List.set_cons_succ])))
 refine walkF_lazy (.bool (E == 0)) rfl rfl (fun _=>by simp [go_sem]) ?_
 simp only [Act.put,List.setIfInBounds_toArray,List.set_cons_zero,List.set_cons_succ]
 refine walkF_nil (end0 (fun W4 hW4=>?_))
 (try simp only [List.filterMap_cons,List.filterMap_nil,List.getElem?_toArray,List.getElem?_cons_zero,List.getElem?_cons_succ])
 have hUp:Up V5 W4:=hW4
 refine forgetW (fun wr=>Up w wr ∧ Box wr w.heap.size #[.slice a n c,.int .i64 home] 25 ∧ Box wr (w.heap.size + 1) #[.int .i64 (d.l.1),.int .i64 (d.l.2),.int .i64 (d.h.1),.int .i64 (d.h.2),.int .i64 (d.g)] 33 ∧ Box wr (w.heap.size + 1 + 1) #[.int .i64 (x0),.int .i64 (x1),.int .i64 (y0),.int .i64 (y1),.int .i64 (u0),.int .i64 (u1),.int .i64 (v0),.int .i64 (v1)] 69 ∧ Box wr (w.heap.size + 1 + 1 + 1) #[.int .i64 (0),.int .i64 (0),.int .i64 (0),.int .i64 (0),.int .i64 (0),.int .i64 (0),.int .i64 (0),.int .i64 (0)] 69 ∧ Box wr g3 #[.int .i64 (m0),.int .i64 (m1),.int .i64 (n0),.int .i64 (n1),.int .i64 (p0),.int .i64 (p1),.int .i64 (q0),.int .i64 (q1)] 69) ⟨(HB5.out.1).trans hUp,(HB5.out.2.1).up hUp,(HB5.out.2.2.1).up hUp,(HB5.out.2.2.2.1).up hUp,(HB5.out.2.2.2.2.1).up hUp,(HB5.out.2.2.2.2.2).up hUp⟩ ?_
 clear HB5 w0 w1 lw dd0 dd1 dd2 dd3 dd4 ldd b0 b1 b2 b3 b4 b5 b6 b7 lb z0 z1 z2 z3 z4 z5 z6 z7 lz fzz0 fzz1 fzz2 fzz3 fzz4 fzz5 fzz6 fzz7 o0 o1 o2 o3 o4 o5 o6 o7 lo fzo0 fzo1 fzo2 fzo3 fzo4 fzo5 fzo6 fzo7
 clear hUp
 rintro V6 ⟨hu,b0,b1,b2,b3,b4⟩
 have HB6:=hide (And.intro hu (And.intro b0 (And.intro b1 (And.intro b2 (And.intro b3 b4)))))
 clear hu b0 b1 b2 b3 b4
 have w0:=(HB6.out.2.1).cell 0 rfl
 have w1:=(HB6.out.2.1).cell 1 rfl
 have lw:=(HB6.out.2.1).lt
 have dd0:=(HB6.out.2.2.1).cell 0 rfl
 have dd1:=(HB6.out.2.2.1).cell 1 rfl
 have dd2:=(HB6.out.2.2.1).cell 2 rfl
 have dd3:=(HB6.out.2.2.1).cell 3 rfl
 have dd4:=(HB6.out.2.2.1).cell 4 rfl
 have ldd:=(HB6.out.2.2.1).lt
 have b0:=(HB6.out.2.2.2.1).cell 0 rfl
 have b1:=(HB6.out.2.2.2.1).cell 1 rfl
 have b2:=(HB6.out.2.2.2.1).cell 2 rfl
 have b3:=(HB6.out.2.2.2.1).cell 3 rfl
 have b4:=(HB6.out.2.2.2.1).cell 4 rfl
 have b5:=(HB6.out.2.2.2.1).cell 5 rfl
 have b6:=(HB6.out.2.2.2.1).cell 6 rfl
 have b7:=(HB6.out.2.2.2.1).cell 7 rfl
 have lb:=(HB6.out.2.2.2.1).lt
 have z0:=(HB6.out.2.2.2.2.1).cell 0 rfl
 have z1:=(HB6.out.2.2.2.2.1).cell 1 rfl
 have z2:=(HB6.out.2.2.2.2.1).cell 2 rfl
 have z3:=(HB6.out.2.2.2.2.1).cell 3 rfl
 have z4:=(HB6.out.2.2.2.2.1).cell 4 rfl
 have z5:=(HB6.out.2.2.2.2.1).cell 5 rfl
 have z6:=(HB6.out.2.2.2.2.1).cell 6 rfl
 have z7:=(HB6.out.2.2.2.2.1).cell 7 rfl
 have lz:=(HB6.out.2.2.2.2.1).lt
 have fzz0:=(HB6.out.2.2.2.2.1).frozen 0
 have fzz1:=(HB6.out.2.2.2.2.1).frozen 1
 have fzz2:=(HB6.out.2.2.2.2.1).frozen 2
 have fzz3:=(HB6.out.2.2.2.2.1).frozen 3
 have fzz4:=(HB6.out.2.2.2.2.1).frozen 4
 have fzz5:=(HB6.out.2.2.2.2.1).frozen 5
 have fzz6:=(HB6.out.2.2.2.2.1).frozen 6
 have fzz7:=(HB6.out.2.2.2.2.1).frozen 7
 have o0:=(HB6.out.2.2.2.2.2).cell 0 rfl
 have o1:=(HB6.out.2.2.2.2.2).cell 1 rfl
 have o2:=(HB6.out.2.2.2.2.2).cell 2 rfl
 have o3:=(HB6.out.2.2.2.2.2).cell 3 rfl
 have o4:=(HB6.out.2.2.2.2.2).cell 4 rfl
 have o5:=(HB6.out.2.2.2.2.2).cell 5 rfl
 have o6:=(HB6.out.2.2.2.2.2).cell 6 rfl
 have o7:=(HB6.out.2.2.2.2.2).cell 7 rfl
 have lo:=(HB6.out.2.2.2.2.2).lt
 have fzo0:=(HB6.out.2.2.2.2.2).frozen 0
 have fzo1:=(HB6.out.2.2.2.2.2).frozen 1
 have fzo2:=(HB6.out.2.2.2.2.2).frozen 2
 have fzo3:=(HB6.out.2.2.2.2.2).frozen 3
 have fzo4:=(HB6.out.2.2.2.2.2).frozen 4
 have fzo5:=(HB6.out.2.2.2.2.2).frozen 5
 have fzo6:=(HB6.out.2.2.2.2.2).frozen 6
 have fzo7:=(HB6.out.2.2.2.2.2).frozen 7
 clear hW4
 have n3:g3 ≠ w.heap.size + 1 + 1 + 1:=by omega
 go_wp2
 refine forgetW (fun WF=>Up w WF ∧ Box WF (w.heap.size + 1 + 1 + 1) #[.int .i64 (m0),.int .i64 (m1),.int .i64 (n0),.int .i64 (n1),.int .i64 (p0),.int .i64 (p1),.int .i64 (q0),.int .i64 (q1)] 69) ⟨(by repeat (first | with_reducible exact HB6.out.1 | with_reducible exact Up.refl _ | with_reducible apply Up.ext | with_reducible apply Up.alloc | with_reducible apply Up.drew | (with_reducible refine Up.setCell ?_ (by simp only;omega) _))),(by (repeat (first | with_reducible apply Box.ext | with_reducible apply Box.alloc | with_reducible apply Box.drew));exact ((((((((HB6.out.2.2.2.2.1).set 0 (.int .i64 m0)).set 1 (.int .i64 m1)).set 2 (.int .i64 n0)).set 3 (.int .i64 n1)).set 4 (.int .i64 p0)).set 5 (.int .i64 p1)).set 6 (.int .i64 q0)).set 7 (.int .i64 q1))⟩ ?_
 rintro WF ⟨huF,hbF⟩
 have e0:=hbF.cell 0 rfl
 have e1:=hbF.cell 1 rfl
 have e2:=hbF.cell 2 rfl
 have e3:=hbF.cell 3 rfl
 have e4:=hbF.cell 4 rfl
 have e5:=hbF.cell 5 rfl
 have e6:=hbF.cell 6 rfl
 have e7:=hbF.cell 7 rfl
 (refine bodyPost_give huF rfl ⟨_,(by simp [results,Tryz.results131,go_sem,e0,e1,e2,e3,e4,e5,e6,e7];rfl),?_⟩)
 rfl
end Go.Proofs.YteafglginnonnaaGreat
/- The statements' source of numbers in regions that draw their order; areas and places made of numbers. Conditions: how often it was asked, and that what came in lies as it lay. -/
namespace Go.Proofs.YteafglginnonnaaGreat
set_option linter.unusedVariables false
set_option linter.unusedSimpArgs false
open Go.RowKit
def RPost (W:World) (B:Nat) (t k:Int) (R:Value → Prop) (e:Ending) (W':World):Prop:=∃ (v:Value) (t':Int) (p:Ext),e = .returned v ∧ R v ∧ 0 ≤ t' ∧ t' ≤ t + k ∧ W' = ext (W.setCell ⟨B,1,none⟩ (.int .i64 t')) p
theorem RPost.mk {W:World} {B:Nat} {t k t':Int} {R:Value → Prop} {v:Value} {W':World} (hR:R v) (h1:0 ≤ t') (h2:t' ≤ t + k) (u:Up (W.setCell ⟨B,1,none⟩ (.int .i64 t')) W'):RPost W B t k R (.returned v) W' :=
 let ⟨p,hp⟩:=u;⟨v,t',p,rfl,hR,h1,h2,hp⟩
def RingGives (f:FuncId) (args:Array Value) (w:World) (sl:Value) (B:Nat) (k:Int) (R:Value → Prop):Prop :=
 ∀ t W,Up w W → Box W B #[sl,.int .i64 t] 98 → 0 ≤ t → t + k ≤ 100000 → Calls Tryz.prog f args W (RPost W B t k R)
theorem RingGives.mono {f:FuncId} {args:Array Value} {w:World} {sl:Value} {B:Nat} {k:Int} {R R':Value → Prop} (h:RingGives f args w sl B k R) (hR:∀ v,R v → R' v):RingGives f args w sl B k R' :=
 fun t W hu hb t0 t1=>(h t W hu hb t0 t1).mono fun _ _ ⟨v,t',p,he,hv,h1,h2,hw⟩=>⟨v,t',p,he,hR v hv,h1,h2,hw⟩
def RInt (lo hi:Int) (v:Value):Prop:=∃ x:Int,lo ≤ x ∧ x ≤ hi ∧ v = .int .i64 x
def RSpan (about wide:Int) (v:Value):Prop:=∃ x y:Int,about - wide ≤ x ∧ x ≤ about ∧ x ≤ y ∧ y ≤ x + wide ∧ v = .agg #[.int .i64 x,.int .i64 y]
def ringBase (w:World) (B:Nat) (x:Int × Ext):World:=ext (w.setCell ⟨B,1,none⟩ (.int .i64 x.1)) x.2
def RingAt (w:World) (B:Nat) (n:Int) (W:World):Prop:=∃ (t:Int) (p:Ext),0 ≤ t ∧ t ≤ n ∧ W = ext (w.setCell ⟨B,1,none⟩ (.int .i64 t)) p
theorem set_same {w:World} {b o:Nat} {c:Array Value} {t:TypeId} {v:Value} (h:Box w b c t) (hv:c[o]? = some v):w.setCell ⟨b,o,none⟩ v = w:=by
 unfold World.setCell
 have hm:∀ f:Obj → Obj,f (.cells c t (0,0)) = .cells c t (0,0) → w.heap.modify b f = w.heap:=fun f hf=>by
  apply Array.ext_getElem?
  intro k
  simp only [Array.getElem?_modify]
  split
  · rename_i hk
    subst hk
    rw [show w.heap[b]? = some (.cells c t (0,0)) from h]
    simp [hf]
  · rfl
 simp only
 rw [hm]
 simp only
 have:c.setIfInBounds o v = c:=by
  apply Array.ext_getElem?
  intro k
  by_cases hk:o = k
  · subst hk
    obtain ⟨hlt,he⟩:=Array.getElem?_eq_some_iff.1 hv
    simp [hlt,he]
  · simp [Array.getElem?_setIfInBounds_ne hk]
 simp [this]
theorem RingAt.box {w:World} {B:Nat} {n:Int} {W:World} (h:RingAt w B n W) {sl:Value} {t:Int} {T:TypeId} (hb:Box w B #[sl,.int .i64 t] T):∃ t':Int,0 ≤ t' ∧ t' ≤ n ∧ Box W B #[sl,.int .i64 t'] T :=
 let ⟨t',p,h0,h1,hW⟩:=h;⟨t',h0,h1,hW ▸ ((hb.two1 (.int .i64 t')).ext p)⟩
theorem RingAt.other {w:World} {B:Nat} {n:Int} {W:World} (h:RingAt w B n W) {b:Nat} {c:Array Value} {T:TypeId} (hb:Box w b c T) (hne:b ≠ B):Box W b c T :=
 let ⟨_,p,_,_,hW⟩:=h;hW ▸ ((hb.other hne 1 _).ext p)
theorem RingAt.up {w0 w:World} {B:Nat} {n:Int} {W:World} (h:RingAt w B n W) (hu:Up w0 w) (hB:w0.heap.size ≤ B):Up w0 W :=
 let ⟨_,p,_,_,hW⟩:=h;hW ▸ ((hu.setCell (q:=⟨B,1,none⟩) hB _).ext p)
theorem RingAt.size {w:World} {B:Nat} {n:Int} {W:World} (h:RingAt w B n W):w.heap.size ≤ W.heap.size :=
 let ⟨_,p,_,_,hW⟩:=h;by rw [hW,ext_size];simp
def RArea (most wide:Int) (v:Value):Prop:=∃ x0 x1 y0 y1:Int,(-most - wide ≤ x0 ∧ x0 ≤ x1 ∧ x1 ≤ most + wide) ∧ (-most - wide ≤ y0 ∧ y0 ≤ y1 ∧ y1 ≤ most + wide) ∧ v = .agg #[.int .i64 x0,.int .i64 x1,.int .i64 y0,.int .i64 y1]
def RVec (a b c d:Int) (v:Value):Prop:=∃ x y:Int,a ≤ x ∧ x ≤ b ∧ c ≤ y ∧ y ≤ d ∧ v = .agg #[.int .i64 x,.int .i64 y]
end Go.Proofs.YteafglginnonnaaGreat
