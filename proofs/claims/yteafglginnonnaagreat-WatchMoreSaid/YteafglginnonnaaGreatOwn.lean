/- Several texts in one. -/
import Derived.Test.YteafglginnonnaaGreatGasC
import Derived.Test.YteafglginnonnaaGreatRingF
import Derived.Test.YteafglginnonnaaGreatMade
/- Package orbit: sets, worlds with a drift, the step of a box. Conditions: what lies in memory, a valid box. -/
namespace Go.Proofs.YteafglginnonnaaGreat
set_option linter.unusedVariables false
set_option linter.unusedSimpArgs false
open Go.RowKit Go.Shelf
set_option maxRecDepth 100000 in
set_option maxHeartbeats 4000000 in
theorem oset_any {K:Nat → Prop} {w:World} {a:Option Addr} {n c:Nat} {l:List BoxD} (hl:Boxes K w (.slice a n c) l):Gives Tryz.prog 130 #[.slice a n c] w (.int .i64 (setE l)):=by
 have hn:=(Boxes.at hl).1
 have hm:=(Boxes.at hl).2.1
 by_cases z5:512 < n
 · have hE:setE l = 8:=by unfold setE;rw [if_pos (by omega)]
   rw [hE]
   have d0:decide ((512:Int) < n) = true:=by simp;omega
   have d1:decide (512 < n) = true:=by simp;omega
   clear hE hl hn
   (unfold Gives;go_enter Tryz.func130,Tryz.ntmps130)
   go_wp2
   go_ret
   exact ⟨rfl,(by repeat (first | with_reducible exact Up.refl _ | with_reducible apply Up.plus | apply Up.ext | apply Up.alloc | apply Up.drew | (refine Up.setCell ?_ (by simp;try omega) _)))⟩
 have hE:setE l = firstE boxE l:=by unfold setE;rw [if_neg (by omega)]
 rw [hE]
 have d0:decide ((512:Int) < n) = false:=by simp;omega
 have HL:=hide hl
 have HN:=hide hn
 clear hE hl hn
 (unfold Gives;go_enter Tryz.func130,Tryz.ntmps130)
 go_wp2
 go_loopw [11] (fun s wr=>∃ k:Nat,k ≤ n ∧ s = .int .i64 k ∧ Hid (Up w wr ∧ noneYet (fun x=>boxE x != 0) l k)) (fun s _=>n - (intOf s).toNat)
 case atStart=>exact ⟨0,by omega,rfl,hide ⟨Up.refl _,fun i p hi _=>by omega⟩⟩
 case round =>
  obtain ⟨k,hk,rfl,HI⟩:=hrel
  by_cases hlt:k < n
  · obtain ⟨b,o,p,rfl,hKb,hbw,hp,c0,c1,c2,c3,c4,c5,c6,c7⟩:=(Boxes.at (HL.out.keeps (HI.out.1.keeps K))).2.2 k hlt
    have hkb:decide ((k:Int) < n) = true:=by simp;omega
    have HP:=hide hp
    clear hp hKb
    by_cases hF:boxE p = 0
    · have hF':(boxE p != 0) = false:=by simp [hF]
      have HS:=hide hF
      clear hF
      go_wp2_with (go_at_call 170;(with_reducible refine (obox_any _ _).mono ?_);intro _)
      go_roundw
      case rel=>exact ⟨k + 1,by omega,by go_num,hide ⟨HI.out.1.trans (by repeat (first | with_reducible exact Up.refl _ | with_reducible apply Up.plus | apply Up.ext | apply Up.alloc | apply Up.drew | (refine Up.setCell ?_ (by simp;try omega) _))),HI.out.2.succ HP.out (by simpa using HS.out)⟩⟩
      case measure=>simp [intOf];omega
    · have hF':(boxE p != 0) = true:=by simp [hF]
      have HS:=hide hF
      clear hF
      go_wp2_with (go_at_call 170;(with_reducible refine (obox_any _ _).mono ?_);intro _)
      go_ret
      refine ⟨ret_int ?_,HI.out.1.trans (by repeat (first | with_reducible exact Up.refl _ | with_reducible apply Up.plus | apply Up.ext | apply Up.alloc | apply Up.drew | (refine Up.setCell ?_ (by simp;try omega) _)))⟩
      rw [firstE_found HI.out.2 HP.out HS.out]
  · have hkb:decide ((k:Int) < n) = false:=by simp;omega
    obtain rfl:k = n:=by omega
    have HF:=hide (show firstE boxE l = 0 from firstE_none (by rw [← HN.out];exact HI.out.2))
    go_wp2
    go_ret
    exact ⟨ret_int (by rw [HF.out]),HI.out.1.trans (by repeat (first | with_reducible exact Up.refl _ | with_reducible apply Up.plus | apply Up.ext | apply Up.alloc | apply Up.drew | (refine Up.setCell ?_ (by simp;try omega) _)))⟩
set_option maxRecDepth 100000 in
set_option maxHeartbeats 4000000 in
theorem oworld_any {K:Nat → Prop} {w:World} {a:Option Addr} {n c:Nat} {bs:List Bod} {home:Int} (hl:Bods K w (.slice a n c) bs) (hh:I64 home) (d:DriftD):Gives Tryz.prog 65 #[.agg #[.slice a n c,.int .i64 home],.agg #[.int .i64 (d.l.1),.int .i64 (d.l.2),.int .i64 (d.h.1),.int .i64 (d.h.2),.int .i64 (d.g)]] w (.int .i64 (worldDE bs home d)):=by
 have HW:=hide (fun W (hu:Up w W)=>skworld_any (hl.keeps (hu.keeps K)) hh)
 have HD:=hide (fun W=>fdrift_any d.l.1 d.l.2 d.h.1 d.h.2 d.g W)
 unfold worldDE
 rw [show driftE d.l d.h d.g = driftE (d.l.1,d.l.2) (d.h.1,d.h.2) d.g from rfl]
 generalize driftE (d.l.1,d.l.2) (d.h.1,d.h.2) d.g = D at *
 by_cases he:worldE bs home = 0
 · rw [if_pos he]
   rw [he] at HW
   clear hl hh he
   (unfold Gives;go_enter Tryz.func65,Tryz.ntmps65)
   go_wp2_with (first | (go_at_call 81;(with_reducible refine (HW.out _ (by repeat (first | with_reducible exact Up.refl _ | with_reducible apply Up.plus | apply Up.ext | apply Up.alloc | apply Up.drew | (refine Up.setCell ?_ (by simp;try omega) _)))).mono ?_);intro _) | (go_at_call 114;(with_reducible refine (HD.out _).mono ?_);intro _))
   go_ret
   exact ⟨rfl,(by repeat (first | with_reducible exact Up.refl _ | with_reducible apply Up.plus | apply Up.ext | apply Up.alloc | apply Up.drew | (refine Up.setCell ?_ (by simp;try omega) _)))⟩
 · rw [if_neg he]
   have heb:(worldE bs home != 0) = true:=by simp [he]
   generalize worldE bs home = E at *
   clear hl hh he
   (unfold Gives;go_enter Tryz.func65,Tryz.ntmps65)
   go_wp2_with (first | (go_at_call 81;(with_reducible refine (HW.out _ (by repeat (first | with_reducible exact Up.refl _ | with_reducible apply Up.plus | apply Up.ext | apply Up.alloc | apply Up.drew | (refine Up.setCell ?_ (by simp;try omega) _)))).mono ?_);intro _) | (go_at_call 114;(with_reducible refine (HD.out _).mono ?_);intro _))
   go_ret
   exact ⟨rfl,(by repeat (first | with_reducible exact Up.refl _ | with_reducible apply Up.plus | apply Up.ext | apply Up.alloc | apply Up.drew | (refine Up.setCell ?_ (by simp;try omega) _)))⟩
set_option maxRecDepth 100000 in
set_option maxHeartbeats 20000000 in
theorem ostep_any {K:Nat → Prop} {w:World} {a:Option Addr} {n c:Nat} {bs:List Bod} {home:Int} (hl:Bods K w (.slice a n c) bs) (hh:I64 home) (d:DriftD) (hw:worldDE bs home d = 0) {t:Int} (ht:0 ≤ t ∧ t ≤ 1073741824) {b:BoxD} (hb:BOk b):Gives Tryz.prog 131 #[.agg #[.slice a n c,.int .i64 home],.agg #[.int .i64 (d.l.1),.int .i64 (d.l.2),.int .i64 (d.h.1),.int .i64 (d.h.2),.int .i64 (d.g)],.int .i64 t,.agg (boxA b)] w (.tuple #[.agg (boxA (stepV bs d t b)),.bool (boxE (stepV bs d t b) == 0)]):=by
 have HO:=hide (fun W (hu:Up w W)=>fOver_any (hl.keeps (hu.keeps K)) hh d.l d.h d.g t (areaX b))
 rw [over_ok hw ht hb] at HO
 obtain ⟨a0,a1,a2,a3,hov,ha,hav,hst⟩:=step_bd (t:=t) hw hb
 rw [hov] at HO
 rw [hst]
 obtain ⟨x0,x1,y0,y1,u0,u1,v0,v1⟩:=b
 obtain ⟨bx,byy,bu,bv⟩:=hb
 unfold boxA areaX at *
 dsimp only at *
 have HU:=hide (fun W=>oadd_any (a:=u0) (b:=u1) (c:=a0) (d:=a1) (by omega) (by omega) (by omega) (by omega) W)
 have HV:=hide (fun W=>oadd_any (a:=v0) (b:=v1) (c:=a2) (d:=a3) (by omega) (by omega) (by omega) (by omega) W)
 have HX:=hide (fun W=>oadd_any (a:=x0) (b:=x1) (c:=u0 + a0) (d:=u1 + a1) (by omega) (by omega) (by omega) (by omega) W)
 have HY:=hide (fun W=>oadd_any (a:=y0) (b:=y1) (c:=v0 + a2) (d:=v1 + a3) (by omega) (by omega) (by omega) (by omega) W)
 generalize u0 + a0 = p0 at *
 generalize u1 + a1 = p1 at *
 generalize v0 + a2 = q0 at *
 generalize v1 + a3 = q1 at *
 generalize x0 + p0 = m0 at *
 generalize x1 + p1 = m1 at *
 generalize y0 + q0 = n0 at *
 generalize y1 + q1 = n1 at *
 have HC:=hide (fun W=>obox_any ⟨m0,m1,n0,n1,p0,p1,q0,q1⟩ W)
 unfold boxA at HC
 dsimp only at HC
 generalize boxE ⟨m0,m1,n0,n1,p0,p1,q0,q1⟩ = E at *
 clear hl hw ht hov ha hav hst bx byy bu bv
 (unfold Gives;go_enter Tryz.func131,Tryz.ntmps131)
 go_wp2_with fail
 go_at_call 157
 refine forgetK (fun wr=>Up w wr ∧ Box wr w.heap.size #[.slice a n c,.int .i64 home] 25 ∧ Box wr (w.heap.size + 1) #[.int .i64 (d.l.1),.int .i64 (d.l.2),.int .i64 (d.h.1),.int .i64 (d.h.2),.int .i64 (d.g)] 33 ∧ Box wr (w.heap.size + 1 + 1) #[.int .i64 (x0),.int .i64 (x1),.int .i64 (y0),.int .i64 (y1),.int .i64 (u0),.int .i64 (u1),.int .i64 (v0),.int .i64 (v1)] 69 ∧ Box wr (w.heap.size + 1 + 1 + 1) #[.int .i64 (0),.int .i64 (0),.int .i64 (0),.int .i64 (0),.int .i64 (0),.int .i64 (0),.int .i64 (0),.int .i64 (0)] 69) ⟨(by repeat (first | with_reducible exact Up.refl _ | with_reducible apply Up.plus | apply Up.ext | apply Up.alloc | apply Up.drew | (refine Up.setCell ?_ (by simp;try omega) _))),(by repeat (first | exact Box.mk rfl | (refine Box.mk ?_;simp;done) | apply Box.ext | apply Box.drew | apply Box.alloc | apply Box.two1 | (refine Box.other ?_ (by omega) _ _))),(by repeat (first | exact Box.mk rfl | (refine Box.mk ?_;simp;done) | apply Box.ext | apply Box.drew | apply Box.alloc | apply Box.two1 | (refine Box.other ?_ (by omega) _ _))),(by repeat (first | exact Box.mk rfl | (refine Box.mk ?_;simp;done) | apply Box.ext | apply Box.drew | apply Box.alloc | apply Box.two1 | (refine Box.other ?_ (by omega) _ _))),(by repeat (first | exact Box.mk rfl | (refine Box.mk ?_;simp;done) | apply Box.ext | apply Box.drew | apply Box.alloc | apply Box.two1 | (refine Box.other ?_ (by omega) _ _)))⟩ ?_
 rintro V0 ⟨hu,b0,b1,b2,b3⟩
 have HB0:=hide (And.intro hu (And.intro b0 (And.intro b1 (And.intro b2 b3))))
 clear hu b0 b1 b2 b3
 have w0:=(HB0.out.2.1).cell 0 rfl
 have w1:=(HB0.out.2.1).cell 1 rfl
 have lw:=(HB0.out.2.1).lt
 have dd0:=(HB0.out.2.2.1).cell 0 rfl
 have dd1:=(HB0.out.2.2.1).cell 1 rfl
 have dd2:=(HB0.out.2.2.1).cell 2 rfl
 have dd3:=(HB0.out.2.2.1).cell 3 rfl
 have dd4:=(HB0.out.2.2.1).cell 4 rfl
 have ldd:=(HB0.out.2.2.1).lt
 have b0:=(HB0.out.2.2.2.1).cell 0 rfl
 have b1:=(HB0.out.2.2.2.1).cell 1 rfl
 have b2:=(HB0.out.2.2.2.1).cell 2 rfl
 have b3:=(HB0.out.2.2.2.1).cell 3 rfl
 have b4:=(HB0.out.2.2.2.1).cell 4 rfl
 have b5:=(HB0.out.2.2.2.1).cell 5 rfl
 have b6:=(HB0.out.2.2.2.1).cell 6 rfl
 have b7:=(HB0.out.2.2.2.1).cell 7 rfl
 have lb:=(HB0.out.2.2.2.1).lt
 have z0:=(HB0.out.2.2.2.2).cell 0 rfl
 have z1:=(HB0.out.2.2.2.2).cell 1 rfl
 have z2:=(HB0.out.2.2.2.2).cell 2 rfl
 have z3:=(HB0.out.2.2.2.2).cell 3 rfl
 have z4:=(HB0.out.2.2.2.2).cell 4 rfl
 have z5:=(HB0.out.2.2.2.2).cell 5 rfl
 have z6:=(HB0.out.2.2.2.2).cell 6 rfl
 have z7:=(HB0.out.2.2.2.2).cell 7 rfl
 have lz:=(HB0.out.2.2.2.2).lt
 have fzz0:=(HB0.out.2.2.2.2).frozen 0
 have fzz1:=(HB0.out.2.2.2.2).frozen 1
 have fzz2:=(HB0.out.2.2.2.2).frozen 2
 have fzz3:=(HB0.out.2.2.2.2).frozen 3
 have fzz4:=(HB0.out.2.2.2.2).frozen 4
 have fzz5:=(HB0.out.2.2.2.2).frozen 5
 have fzz6:=(HB0.out.2.2.2.2).frozen 6
 have fzz7:=(HB0.out.2.2.2.2).frozen 7
 refine (HO.out _ (by repeat (first | with_reducible exact HB0.out.1 | with_reducible exact Up.refl _ | with_reducible apply Up.ext | with_reducible apply Up.alloc | with_reducible apply Up.drew | (with_reducible refine Up.setCell ?_ (by simp only;omega) _)))).mono ?_
 intro qa
 go_wp2_with fail
 obtain ⟨ga,hga⟩:∃ g,g = V0.heap.size + qa.os.size:=⟨_,rfl⟩
 try rw [← hga]
 have lga:w.heap.size + 1 + 1 + 1 < ga:=by omega
 refine forgetW (fun wr=>Up w wr ∧ Box wr w.heap.size #[.slice a n c,.int .i64 home] 25 ∧ Box wr (w.heap.size + 1) #[.int .i64 (d.l.1),.int .i64 (d.l.2),.int .i64 (d.h.1),.int .i64 (d.h.2),.int .i64 (d.g)] 33 ∧ Box wr (w.heap.size + 1 + 1) #[.int .i64 (x0),.int .i64 (x1),.int .i64 (y0),.int .i64 (y1),.int .i64 (u0),.int .i64 (u1),.int .i64 (v0),.int .i64 (v1)] 69 ∧ Box wr (w.heap.size + 1 + 1 + 1) #[.int .i64 (0),.int .i64 (0),.int .i64 (0),.int .i64 (0),.int .i64 (0),.int .i64 (0),.int .i64 (0),.int .i64 (0)] 69 ∧ Box wr ga #[.int .i64 (a0),.int .i64 (a1),.int .i64 (a2),.int .i64 (a3)] 61) ⟨(by repeat (first | with_reducible exact HB0.out.1 | with_reducible exact Up.refl _ | with_reducible apply Up.ext | with_reducible apply Up.alloc | with_reducible apply Up.drew | (with_reducible refine Up.setCell ?_ (by simp only;omega) _))),(by repeat (first | with_reducible exact HB0.out.2.1 | with_reducible apply Box.ext | with_reducible apply Box.alloc | with_reducible apply Box.drew | (with_reducible refine Box.other ?_ (by omega) _ _))),(by repeat (first | with_reducible exact HB0.out.2.2.1 | with_reducible apply Box.ext | with_reducible apply Box.alloc | with_reducible apply Box.drew | (with_reducible refine Box.other ?_ (by omega) _ _))),(by repeat (first | with_reducible exact HB0.out.2.2.2.1 | with_reducible apply Box.ext | with_reducible apply Box.alloc | with_reducible apply Box.drew | (with_reducible refine Box.other ?_ (by omega) _ _))),(by repeat (first | with_reducible exact HB0.out.2.2.2.2 | with_reducible apply Box.ext | with_reducible apply Box.alloc | with_reducible apply Box.drew | (with_reducible refine Box.other ?_ (by omega) _ _))),by rw [hga];exact Box.mk (ext_size _ _)⟩ ?_
 clear HB0 w0 w1 lw dd0 dd1 dd2 dd3 dd4 ldd b0 b1 b2 b3 b4 b5 b6 b7 lb z0 z1 z2 z3 z4 z5 z6 z7 lz fzz0 fzz1 fzz2 fzz3 fzz4 fzz5 fzz6 fzz7
 clear hga
 rintro V1 ⟨hu,b0,b1,b2,b3,b4⟩
 have HB1:=hide (And.intro hu (And.intro b0 (And.intro b1 (And.intro b2 (And.intro b3 b4)))))
 clear hu b0 b1 b2 b3 b4
 have w0:=(HB1.out.2.1).cell 0 rfl
 have w1:=(HB1.out.2.1).cell 1 rfl
 have lw:=(HB1.out.2.1).lt
 have dd0:=(HB1.out.2.2.1).cell 0 rfl
 have dd1:=(HB1.out.2.2.1).cell 1 rfl
 have dd2:=(HB1.out.2.2.1).cell 2 rfl
 have dd3:=(HB1.out.2.2.1).cell 3 rfl
 have dd4:=(HB1.out.2.2.1).cell 4 rfl
 have ldd:=(HB1.out.2.2.1).lt
 have b0:=(HB1.out.2.2.2.1).cell 0 rfl
 have b1:=(HB1.out.2.2.2.1).cell 1 rfl
 have b2:=(HB1.out.2.2.2.1).cell 2 rfl
 have b3:=(HB1.out.2.2.2.1).cell 3 rfl
 have b4:=(HB1.out.2.2.2.1).cell 4 rfl
 have b5:=(HB1.out.2.2.2.1).cell 5 rfl
 have b6:=(HB1.out.2.2.2.1).cell 6 rfl
 have b7:=(HB1.out.2.2.2.1).cell 7 rfl
 have lb:=(HB1.out.2.2.2.1).lt
 have z0:=(HB1.out.2.2.2.2.1).cell 0 rfl
 have z1:=(HB1.out.2.2.2.2.1).cell 1 rfl
 have z2:=(HB1.out.2.2.2.2.1).cell 2 rfl
 have z3:=(HB1.out.2.2.2.2.1).cell 3 rfl
 have z4:=(HB1.out.2.2.2.2.1).cell 4 rfl
 have z5:=(HB1.out.2.2.2.2.1).cell 5 rfl
 have z6:=(HB1.out.2.2.2.2.1).cell 6 rfl
 have z7:=(HB1.out.2.2.2.2.1).cell 7 rfl
 have lz:=(HB1.out.2.2.2.2.1).lt
 have fzz0:=(HB1.out.2.2.2.2.1).frozen 0
 have fzz1:=(HB1.out.2.2.2.2.1).frozen 1
 have fzz2:=(HB1.out.2.2.2.2.1).frozen 2
 have fzz3:=(HB1.out.2.2.2.2.1).frozen 3
 have fzz4:=(HB1.out.2.2.2.2.1).frozen 4
 have fzz5:=(HB1.out.2.2.2.2.1).frozen 5
 have fzz6:=(HB1.out.2.2.2.2.1).frozen 6
 have fzz7:=(HB1.out.2.2.2.2.1).frozen 7
 have k0:=(HB1.out.2.2.2.2.2).cell 0 rfl
 have k1:=(HB1.out.2.2.2.2.2).cell 1 rfl
 have k2:=(HB1.out.2.2.2.2.2).cell 2 rfl
 have k3:=(HB1.out.2.2.2.2.2).cell 3 rfl
 have lk:=(HB1.out.2.2.2.2.2).lt
 refine wp_region_float (al:=[(10,12,#[.int .i64 (0),.int .i64 (0)],31),(11,13,#[.int .i64 (0),.int .i64 (0)],31)]) (mv:=fun _=>false) [12,13] [0,1,2,3,4,5,6,7,8,9] (by kernel_rfl) (by kernel_rfl) (makes2 ⟨_,rfl,rfl,fun _=>rfl,fun _ _=>by simp [go_sem]⟩ ⟨_,rfl,rfl,fun _=>rfl,fun _ _=>by simp [go_sem]⟩) (cls_ext _) (by first | exact drew_in2 _ _ | exact drew_in _) (Nat.le_refl _) ?_
 simp only [withOps,List.filterMap_cons,List.filterMap_nil,List.getElem?_toArray,List.getElem?_cons_zero,List.getElem?_cons_succ,Option.map_some]
 (repeat (first | (apply walkF_pure (base:=fun p:Ext=>ext _ p) rfl rfl rfl (by kernel_rfl);· (intro px K hK;go_big_quiet_op;first | exact hK | (apply Exists.intro;refine ⟨fun _=>?_,?_⟩;(· ((first | (go_at_call 171;with_reducible exact Gives.inFloat (HU.out _)) | (go_at_call 171;with_reducible exact Gives.inFloat (HV.out _)))));exact hK))) | (apply walkF_skip rfl;simp only [Act.put,List.setIfInBounds_toArray,List.set_cons_zero,List.set_cons_succ])))
 refine walkF_nil (end2 (by decide) (fun g1 g2 W2 hg1 hg2 hg12 hW2 z1 z2=>?_))
 simp only [Act.put,List.setIfInBounds_toArray,List.set_cons_zero,List.set_cons_succ]
 (try simp only [List.filterMap_cons,List.filterMap_nil,List.getElem?_toArray,List.getElem?_cons_zero,List.getElem?_cons_succ])
 have hUp:Up V1 W2:=hW2
 have lg1:ga < g1:=by omega
 have lg2:ga < g2:=by omega
 have hg21:g2 ≠ g1:=fun e=>hg12 e.symm
 refine forgetW (fun wr=>Up w wr ∧ Box wr w.heap.size #[.slice a n c,.int .i64 home] 25 ∧ Box wr (w.heap.size + 1) #[.int .i64 (d.l.1),.int .i64 (d.l.2),.int .i64 (d.h.1),.int .i64 (d.h.2),.int .i64 (d.g)] 33 ∧ Box wr (w.heap.size + 1 + 1) #[.int .i64 (x0),.int .i64 (x1),.int .i64 (y0),.int .i64 (y1),.int .i64 (u0),.int .i64 (u1),.int .i64 (v0),.int .i64 (v1)] 69 ∧ Box wr (w.heap.size + 1 + 1 + 1) #[.int .i64 (0),.int .i64 (0),.int .i64 (0),.int .i64 (0),.int .i64 (0),.int .i64 (0),.int .i64 (0),.int .i64 (0)] 69 ∧ Box wr ga #[.int .i64 (a0),.int .i64 (a1),.int .i64 (a2),.int .i64 (a3)] 61 ∧ Box wr g1 #[.int .i64 (0),.int .i64 (0)] 31 ∧ Box wr g2 #[.int .i64 (0),.int .i64 (0)] 31) ⟨(HB1.out.1).trans hUp,(HB1.out.2.1).up hUp,(HB1.out.2.2.1).up hUp,(HB1.out.2.2.2.1).up hUp,(HB1.out.2.2.2.2.1).up hUp,(HB1.out.2.2.2.2.2).up hUp,z1,z2⟩ ?_
 clear HB1 w0 w1 lw dd0 dd1 dd2 dd3 dd4 ldd b0 b1 b2 b3 b4 b5 b6 b7 lb z0 z1 z2 z3 z4 z5 z6 z7 lz fzz0 fzz1 fzz2 fzz3 fzz4 fzz5 fzz6 fzz7 k0 k1 k2 k3 lk
 clear hUp
 rintro V2 ⟨hu,b0,b1,b2,b3,b4,b5,b6⟩
 have HB2:=hide (And.intro hu (And.intro b0 (And.intro b1 (And.intro b2 (And.intro b3 (And.intro b4 (And.intro b5 b6)))))))
 clear hu b0 b1 b2 b3 b4 b5 b6
 have w0:=(HB2.out.2.1).cell 0 rfl
 have w1:=(HB2.out.2.1).cell 1 rfl
 have lw:=(HB2.out.2.1).lt
 have dd0:=(HB2.out.2.2.1).cell 0 rfl
 have dd1:=(HB2.out.2.2.1).cell 1 rfl
 have dd2:=(HB2.out.2.2.1).cell 2 rfl
 have dd3:=(HB2.out.2.2.1).cell 3 rfl
 have dd4:=(HB2.out.2.2.1).cell 4 rfl
 have ldd:=(HB2.out.2.2.1).lt
 have b0:=(HB2.out.2.2.2.1).cell 0 rfl
 have b1:=(HB2.out.2.2.2.1).cell 1 rfl
 have b2:=(HB2.out.2.2.2.1).cell 2 rfl
 have b3:=(HB2.out.2.2.2.1).cell 3 rfl
 have b4:=(HB2.out.2.2.2.1).cell 4 rfl
 have b5:=(HB2.out.2.2.2.1).cell 5 rfl
 have b6:=(HB2.out.2.2.2.1).cell 6 rfl
 have b7:=(HB2.out.2.2.2.1).cell 7 rfl
 have lb:=(HB2.out.2.2.2.1).lt
 have z0:=(HB2.out.2.2.2.2.1).cell 0 rfl
 have z1:=(HB2.out.2.2.2.2.1).cell 1 rfl
 have z2:=(HB2.out.2.2.2.2.1).cell 2 rfl
 have z3:=(HB2.out.2.2.2.2.1).cell 3 rfl
 have z4:=(HB2.out.2.2.2.2.1).cell 4 rfl
 have z5:=(HB2.out.2.2.2.2.1).cell 5 rfl
 have z6:=(HB2.out.2.2.2.2.1).cell 6 rfl
 have z7:=(HB2.out.2.2.2.2.1).cell 7 rfl
 have lz:=(HB2.out.2.2.2.2.1).lt
 have fzz0:=(HB2.out.2.2.2.2.1).frozen 0
 have fzz1:=(HB2.out.2.2.2.2.1).frozen 1
 have fzz2:=(HB2.out.2.2.2.2.1).frozen 2
 have fzz3:=(HB2.out.2.2.2.2.1).frozen 3
 have fzz4:=(HB2.out.2.2.2.2.1).frozen 4
 have fzz5:=(HB2.out.2.2.2.2.1).frozen 5
 have fzz6:=(HB2.out.2.2.2.2.1).frozen 6
 have fzz7:=(HB2.out.2.2.2.2.1).frozen 7
 have k0:=(HB2.out.2.2.2.2.2.1).cell 0 rfl
 have k1:=(HB2.out.2.2.2.2.2.1).cell 1 rfl
 have k2:=(HB2.out.2.2.2.2.2.1).cell 2 rfl
 have k3:=(HB2.out.2.2.2.2.2.1).cell 3 rfl
 have lk:=(HB2.out.2.2.2.2.2.1).lt
 have r0:=(HB2.out.2.2.2.2.2.2.1).cell 0 rfl
 have r1:=(HB2.out.2.2.2.2.2.2.1).cell 1 rfl
 have lr:=(HB2.out.2.2.2.2.2.2.1).lt
 have fzr0:=(HB2.out.2.2.2.2.2.2.1).frozen 0
 have fzr1:=(HB2.out.2.2.2.2.2.2.1).frozen 1
 have s0:=(HB2.out.2.2.2.2.2.2.2).cell 0 rfl
 have s1:=(HB2.out.2.2.2.2.2.2.2).cell 1 rfl
 have ls:=(HB2.out.2.2.2.2.2.2.2).lt
 have fzs0:=(HB2.out.2.2.2.2.2.2.2).frozen 0
 have fzs1:=(HB2.out.2.2.2.2.2.2.2).frozen 1
 clear hW2 z1 z2 hg1 hg2
 go_wp2_with fail
 refine forgetW (fun wr=>Up w wr ∧ Box wr w.heap.size #[.slice a n c,.int .i64 home] 25 ∧ Box wr (w.heap.size + 1) #[.int .i64 (d.l.1),.int .i64 (d.l.2),.int .i64 (d.h.1),.int .i64 (d.h.2),.int .i64 (d.g)] 33 ∧ Box wr (w.heap.size + 1 + 1) #[.int .i64 (x0),.int .i64 (x1),.int .i64 (y0),.int .i64 (y1),.int .i64 (u0),.int .i64 (u1),.int .i64 (v0),.int .i64 (v1)] 69 ∧ Box wr (w.heap.size + 1 + 1 + 1) #[.int .i64 (0),.int .i64 (0),.int .i64 (0),.int .i64 (0),.int .i64 (0),.int .i64 (0),.int .i64 (0),.int .i64 (0)] 69 ∧ Box wr g1 #[.int .i64 (p0),.int .i64 (p1)] 31 ∧ Box wr g2 #[.int .i64 (q0),.int .i64 (q1)] 31) ⟨(by repeat (first | with_reducible exact HB2.out.1 | with_reducible exact Up.refl _ | with_reducible apply Up.ext | with_reducible apply Up.alloc | with_reducible apply Up.drew | (with_reducible refine Up.setCell ?_ (by simp only;omega) _))),(by repeat (first | with_reducible exact HB2.out.2.1 | with_reducible apply Box.ext | with_reducible apply Box.alloc | with_reducible apply Box.drew | (with_reducible refine Box.other ?_ (by omega) _ _))),(by repeat (first | with_reducible exact HB2.out.2.2.1 | with_reducible apply Box.ext | with_reducible apply Box.alloc | with_reducible apply Box.drew | (with_reducible refine Box.other ?_ (by omega) _ _))),(by repeat (first | with_reducible exact HB2.out.2.2.2.1 | with_reducible apply Box.ext | with_reducible apply Box.alloc | with_reducible apply Box.drew | (with_reducible refine Box.other ?_ (by omega) _ _))),(by repeat (first | with_reducible exact HB2.out.2.2.2.2.1 | with_reducible apply Box.ext | with_reducible apply Box.alloc | with_reducible apply Box.drew | (with_reducible refine Box.other ?_ (by omega) _ _))),(by (repeat (first | with_reducible apply Box.ext | with_reducible apply Box.alloc | with_reducible apply Box.drew));exact ((((HB2.out.2.2.2.2.2.2.1).set 0 (.int .i64 p0)).set 1 (.int .i64 p1)).other hg12 _ _).other hg12 _ _),(by (repeat (first | with_reducible apply Box.ext | with_reducible apply Box.alloc | with_reducible apply Box.drew));exact ((((HB2.out.2.2.2.2.2.2.2).other hg21 _ _).other hg21 _ _).set 0 (.int .i64 q0)).set 1 (.int .i64 q1))⟩ ?_
 clear HB2 w0 w1 lw dd0 dd1 dd2 dd3 dd4 ldd b0 b1 b2 b3 b4 b5 b6 b7 lb z0 z1 z2 z3 z4 z5 z6 z7 lz fzz0 fzz1 fzz2 fzz3 fzz4 fzz5 fzz6 fzz7 k0 k1 k2 k3 lk r0 r1 lr fzr0 fzr1 s0 s1 ls fzs0 fzs1
 rintro V3 ⟨hu,b0,b1,b2,b3,b4,b5⟩
 have HB3:=hide (And.intro hu (And.intro b0 (And.intro b1 (And.intro b2 (And.intro b3 (And.intro b4 b5))))))
 clear hu b0 b1 b2 b3 b4 b5
 have w0:=(HB3.out.2.1).cell 0 rfl
 have w1:=(HB3.out.2.1).cell 1 rfl
 have lw:=(HB3.out.2.1).lt
 have dd0:=(HB3.out.2.2.1).cell 0 rfl
 have dd1:=(HB3.out.2.2.1).cell 1 rfl
 have dd2:=(HB3.out.2.2.1).cell 2 rfl
 have dd3:=(HB3.out.2.2.1).cell 3 rfl
 have dd4:=(HB3.out.2.2.1).cell 4 rfl
 have ldd:=(HB3.out.2.2.1).lt
 have b0:=(HB3.out.2.2.2.1).cell 0 rfl
 have b1:=(HB3.out.2.2.2.1).cell 1 rfl
 have b2:=(HB3.out.2.2.2.1).cell 2 rfl
 have b3:=(HB3.out.2.2.2.1).cell 3 rfl
 have b4:=(HB3.out.2.2.2.1).cell 4 rfl
 have b5:=(HB3.out.2.2.2.1).cell 5 rfl
 have b6:=(HB3.out.2.2.2.1).cell 6 rfl
 have b7:=(HB3.out.2.2.2.1).cell 7 rfl
 have lb:=(HB3.out.2.2.2.1).lt
 have z0:=(HB3.out.2.2.2.2.1).cell 0 rfl
 have z1:=(HB3.out.2.2.2.2.1).cell 1 rfl
 have z2:=(HB3.out.2.2.2.2.1).cell 2 rfl
 have z3:=(HB3.out.2.2.2.2.1).cell 3 rfl
 have z4:=(HB3.out.2.2.2.2.1).cell 4 rfl
 have z5:=(HB3.out.2.2.2.2.1).cell 5 rfl
 have z6:=(HB3.out.2.2.2.2.1).cell 6 rfl
 have z7:=(HB3.out.2.2.2.2.1).cell 7 rfl
 have lz:=(HB3.out.2.2.2.2.1).lt
 have fzz0:=(HB3.out.2.2.2.2.1).frozen 0
 have fzz1:=(HB3.out.2.2.2.2.1).frozen 1
 have fzz2:=(HB3.out.2.2.2.2.1).frozen 2
 have fzz3:=(HB3.out.2.2.2.2.1).frozen 3
 have fzz4:=(HB3.out.2.2.2.2.1).frozen 4
 have fzz5:=(HB3.out.2.2.2.2.1).frozen 5
 have fzz6:=(HB3.out.2.2.2.2.1).frozen 6
 have fzz7:=(HB3.out.2.2.2.2.1).frozen 7
 have r0:=(HB3.out.2.2.2.2.2.1).cell 0 rfl
 have r1:=(HB3.out.2.2.2.2.2.1).cell 1 rfl
 have lr:=(HB3.out.2.2.2.2.2.1).lt
 have fzr0:=(HB3.out.2.2.2.2.2.1).frozen 0
 have fzr1:=(HB3.out.2.2.2.2.2.1).frozen 1
 have s0:=(HB3.out.2.2.2.2.2.2).cell 0 rfl
 have s1:=(HB3.out.2.2.2.2.2.2).cell 1 rfl
 have ls:=(HB3.out.2.2.2.2.2.2).lt
 have fzs0:=(HB3.out.2.2.2.2.2.2).frozen 0
 have fzs1:=(HB3.out.2.2.2.2.2.2).frozen 1
 refine wp_region_float (al:=[(11,14,#[.int .i64 (0),.int .i64 (0),.int .i64 (0),.int .i64 (0),.int .i64 (0),.int .i64 (0),.int .i64 (0),.int .i64 (0)],69)]) (mv:=fun _=>false) [12] [0,1,2,3,4,5,6,7,8,9,10] (by kernel_rfl) (by kernel_rfl) (makes1 ⟨_,rfl,rfl,fun _=>rfl,fun _ _=>by simp [go_sem]⟩) (cls_ext _) (by first | exact drew_in2 _ _ | exact drew_in _) (Nat.le_refl _) ?_
 simp only [withOps,List.filterMap_cons,List.filterMap_nil,List.getElem?_toArray,List.getElem?_cons_zero,List.getElem?_cons_succ,Option.map_some]
 (repeat (first | (apply walkF_pure (base:=fun p:Ext=>ext _ p) rfl rfl rfl (by kernel_rfl);· (intro px K hK;go_big_quiet_op;first | exact hK | (apply Exists.intro;refine ⟨fun _=>?_,?_⟩;(· ((first | (go_at_call 171;with_reducible exact Gives.inFloat (HX.out _)) | (go_at_call 171;with_reducible exact Gives.inFloat (HY.out _)))));exact hK))) | (apply walkF_skip rfl;simp only [Act.put,List.setIfInBounds_toArray,List.set_cons_zero,List.set_cons_succ])))
 refine walkF_nil (end1 (fun g3 W3 hg3 hW3 z3=>?_))
 simp only [Act.put,List.setIfInBounds_toArray,List.set_cons_zero,List.set_cons_succ]
 (try simp only [List.filterMap_cons,List.filterMap_nil,List.getElem?_toArray,List.getElem?_cons_zero,List.getElem?_cons_succ])
 have hUp:Up V3 W3:=hW3
 have lg3:g1 < g3:=by omega
 have lg4:g2 < g3:=by omega
 refine forgetW (fun wr=>Up w wr ∧ Box wr w.heap.size #[.slice a n c,.int .i64 home] 25 ∧ Box wr (w.heap.size + 1) #[.int .i64 (d.l.1),.int .i64 (d.l.2),.int .i64 (d.h.1),.int .i64 (d.h.2),.int .i64 (d.g)] 33 ∧ Box wr (w.heap.size + 1 + 1) #[.int .i64 (x0),.int .i64 (x1),.int .i64 (y0),.int .i64 (y1),.int .i64 (u0),.int .i64 (u1),.int .i64 (v0),.int .i64 (v1)] 69 ∧ Box wr (w.heap.size + 1 + 1 + 1) #[.int .i64 (0),.int .i64 (0),.int .i64 (0),.int .i64 (0),.int .i64 (0),.int .i64 (0),.int .i64 (0),.int .i64 (0)] 69 ∧ Box wr g1 #[.int .i64 (p0),.int .i64 (p1)] 31 ∧ Box wr g2 #[.int .i64 (q0),.int .i64 (q1)] 31 ∧ Box wr g3 #[.int .i64 (0),.int .i64 (0),.int .i64 (0),.int .i64 (0),.int .i64 (0),.int .i64 (0),.int .i64 (0),.int .i64 (0)] 69) ⟨(HB3.out.1).trans hUp,(HB3.out.2.1).up hUp,(HB3.out.2.2.1).up hUp,(HB3.out.2.2.2.1).up hUp,(HB3.out.2.2.2.2.1).up hUp,(HB3.out.2.2.2.2.2.1).up hUp,(HB3.out.2.2.2.2.2.2).up hUp,z3⟩ ?_
 clear HB3 w0 w1 lw dd0 dd1 dd2 dd3 dd4 ldd b0 b1 b2 b3 b4 b5 b6 b7 lb z0 z1 z2 z3 z4 z5 z6 z7 lz fzz0 fzz1 fzz2 fzz3 fzz4 fzz5 fzz6 fzz7 r0 r1 lr fzr0 fzr1 s0 s1 ls fzs0 fzs1
 clear hUp
 rintro V4 ⟨hu,b0,b1,b2,b3,b4,b5,b6⟩
 have HB4:=hide (And.intro hu (And.intro b0 (And.intro b1 (And.intro b2 (And.intro b3 (And.intro b4 (And.intro b5 b6)))))))
 clear hu b0 b1 b2 b3 b4 b5 b6
 have w0:=(HB4.out.2.1).cell 0 rfl
 have w1:=(HB4.out.2.1).cell 1 rfl
 have lw:=(HB4.out.2.1).lt
 have dd0:=(HB4.out.2.2.1).cell 0 rfl
 have dd1:=(HB4.out.2.2.1).cell 1 rfl
 have dd2:=(HB4.out.2.2.1).cell 2 rfl
 have dd3:=(HB4.out.2.2.1).cell 3 rfl
 have dd4:=(HB4.out.2.2.1).cell 4 rfl
 have ldd:=(HB4.out.2.2.1).lt
 have b0:=(HB4.out.2.2.2.1).cell 0 rfl
 have b1:=(HB4.out.2.2.2.1).cell 1 rfl
 have b2:=(HB4.out.2.2.2.1).cell 2 rfl
 have b3:=(HB4.out.2.2.2.1).cell 3 rfl
 have b4:=(HB4.out.2.2.2.1).cell 4 rfl
 have b5:=(HB4.out.2.2.2.1).cell 5 rfl
 have b6:=(HB4.out.2.2.2.1).cell 6 rfl
 have b7:=(HB4.out.2.2.2.1).cell 7 rfl
 have lb:=(HB4.out.2.2.2.1).lt
 have z0:=(HB4.out.2.2.2.2.1).cell 0 rfl
 have z1:=(HB4.out.2.2.2.2.1).cell 1 rfl
 have z2:=(HB4.out.2.2.2.2.1).cell 2 rfl
 have z3:=(HB4.out.2.2.2.2.1).cell 3 rfl
 have z4:=(HB4.out.2.2.2.2.1).cell 4 rfl
 have z5:=(HB4.out.2.2.2.2.1).cell 5 rfl
 have z6:=(HB4.out.2.2.2.2.1).cell 6 rfl
 have z7:=(HB4.out.2.2.2.2.1).cell 7 rfl
 have lz:=(HB4.out.2.2.2.2.1).lt
 have fzz0:=(HB4.out.2.2.2.2.1).frozen 0
 have fzz1:=(HB4.out.2.2.2.2.1).frozen 1
 have fzz2:=(HB4.out.2.2.2.2.1).frozen 2
 have fzz3:=(HB4.out.2.2.2.2.1).frozen 3
 have fzz4:=(HB4.out.2.2.2.2.1).frozen 4
 have fzz5:=(HB4.out.2.2.2.2.1).frozen 5
 have fzz6:=(HB4.out.2.2.2.2.1).frozen 6
 have fzz7:=(HB4.out.2.2.2.2.1).frozen 7
 have r0:=(HB4.out.2.2.2.2.2.1).cell 0 rfl
 have r1:=(HB4.out.2.2.2.2.2.1).cell 1 rfl
 have lr:=(HB4.out.2.2.2.2.2.1).lt
 have fzr0:=(HB4.out.2.2.2.2.2.1).frozen 0
 have fzr1:=(HB4.out.2.2.2.2.2.1).frozen 1
 have s0:=(HB4.out.2.2.2.2.2.2.1).cell 0 rfl
 have s1:=(HB4.out.2.2.2.2.2.2.1).cell 1 rfl
 have ls:=(HB4.out.2.2.2.2.2.2.1).lt
 have fzs0:=(HB4.out.2.2.2.2.2.2.1).frozen 0
 have fzs1:=(HB4.out.2.2.2.2.2.2.1).frozen 1
 have o0:=(HB4.out.2.2.2.2.2.2.2).cell 0 rfl
 have o1:=(HB4.out.2.2.2.2.2.2.2).cell 1 rfl
 have o2:=(HB4.out.2.2.2.2.2.2.2).cell 2 rfl
 have o3:=(HB4.out.2.2.2.2.2.2.2).cell 3 rfl
 have o4:=(HB4.out.2.2.2.2.2.2.2).cell 4 rfl
 have o5:=(HB4.out.2.2.2.2.2.2.2).cell 5 rfl
 have o6:=(HB4.out.2.2.2.2.2.2.2).cell 6 rfl
 have o7:=(HB4.out.2.2.2.2.2.2.2).cell 7 rfl
 have lo:=(HB4.out.2.2.2.2.2.2.2).lt
 have fzo0:=(HB4.out.2.2.2.2.2.2.2).frozen 0
 have fzo1:=(HB4.out.2.2.2.2.2.2.2).frozen 1
 have fzo2:=(HB4.out.2.2.2.2.2.2.2).frozen 2
 have fzo3:=(HB4.out.2.2.2.2.2.2.2).frozen 3
 have fzo4:=(HB4.out.2.2.2.2.2.2.2).frozen 4
 have fzo5:=(HB4.out.2.2.2.2.2.2.2).frozen 5
 have fzo6:=(HB4.out.2.2.2.2.2.2.2).frozen 6
 have fzo7:=(HB4.out.2.2.2.2.2.2.2).frozen 7
 clear hW3 z3 hg3
 go_wp2_with fail
 refine forgetW (fun wr=>Up w wr ∧ Box wr w.heap.size #[.slice a n c,.int .i64 home] 25 ∧ Box wr (w.heap.size + 1) #[.int .i64 (d.l.1),.int .i64 (d.l.2),.int .i64 (d.h.1),.int .i64 (d.h.2),.int .i64 (d.g)] 33 ∧ Box wr (w.heap.size + 1 + 1) #[.int .i64 (x0),.int .i64 (x1),.int .i64 (y0),.int .i64 (y1),.int .i64 (u0),.int .i64 (u1),.int .i64 (v0),.int .i64 (v1)] 69 ∧ Box wr (w.heap.size + 1 + 1 + 1) #[.int .i64 (0),.int .i64 (0),.int .i64 (0),.int .i64 (0),.int .i64 (0),.int .i64 (0),.int .i64 (0),.int .i64 (0)] 69 ∧ Box wr g3 #[.int .i64 (m0),.int .i64 (m1),.int .i64 (n0),.int .i64 (n1),.int .i64 (p0),.int .i64 (p1),.int .i64 (q0),.int .i64 (q1)] 69) ⟨(by repeat (first | with_reducible exact HB4.out.1 | with_reducible exact Up.refl _ | with_reducible apply Up.ext | with_reducible apply Up.alloc | with_reducible apply Up.drew | (with_reducible refine Up.setCell ?_ (by simp only;omega) _))),(by repeat (first | with_reducible exact HB4.out.2.1 | with_reducible apply Box.ext | with_reducible apply Box.alloc | with_reducible apply Box.drew | (with_reducible refine Box.other ?_ (by omega) _ _))),(by repeat (first | with_reducible exact HB4.out.2.2.1 | with_reducible apply Box.ext | with_reducible apply Box.alloc | with_reducible apply Box.drew | (with_reducible refine Box.other ?_ (by omega) _ _))),(by repeat (first | with_reducible exact HB4.out.2.2.2.1 | with_reducible apply Box.ext | with_reducible apply Box.alloc | with_reducible apply Box.drew | (with_reducible refine Box.other ?_ (by omega) _ _))),(by repeat (first | with_reducible exact HB4.out.2.2.2.2.1 | with_reducible apply Box.ext | with_reducible apply Box.alloc | with_reducible apply Box.drew | (with_reducible refine Box.other ?_ (by omega) _ _))),(by (repeat (first | with_reducible apply Box.ext | with_reducible apply Box.alloc | with_reducible apply Box.drew));exact ((((((((HB4.out.2.2.2.2.2.2.2).set 0 (.int .i64 m0)).set 1 (.int .i64 m1)).set 2 (.int .i64 n0)).set 3 (.int .i64 n1)).set 4 (.int .i64 p0)).set 5 (.int .i64 p1)).set 6 (.int .i64 q0)).set 7 (.int .i64 q1))⟩ ?_
 clear HB4 w0 w1 lw dd0 dd1 dd2 dd3 dd4 ldd b0 b1 b2 b3 b4 b5 b6 b7 lb z0 z1 z2 z3 z4 z5 z6 z7 lz fzz0 fzz1 fzz2 fzz3 fzz4 fzz5 fzz6 fzz7 r0 r1 lr fzr0 fzr1 s0 s1 ls fzs0 fzs1 o0 o1 o2 o3 o4 o5 o6 o7 lo fzo0 fzo1 fzo2 fzo3 fzo4 fzo5 fzo6 fzo7
 rintro V5 ⟨hu,b0,b1,b2,b3,b4⟩
 have HB5:=hide (And.intro hu (And.intro b0 (And.intro b1 (And.intro b2 (And.intro b3 b4)))))
 clear hu b0 b1 b2 b3 b4
 have w0:=(HB5.out.2.1).cell 0 rfl
 have w1:=(HB5.out.2.1).cell 1 rfl
 have lw:=(HB5.out.2.1).lt
 have dd0:=(HB5.out.2.2.1).cell 0 rfl
 have dd1:=(HB5.out.2.2.1).cell 1 rfl
 have dd2:=(HB5.out.2.2.1).cell 2 rfl
 have dd3:=(HB5.out.2.2.1).cell 3 rfl
 have dd4:=(HB5.out.2.2.1).cell 4 rfl
 have ldd:=(HB5.out.2.2.1).lt
 have b0:=(HB5.out.2.2.2.1).cell 0 rfl
 have b1:=(HB5.out.2.2.2.1).cell 1 rfl
 have b2:=(HB5.out.2.2.2.1).cell 2 rfl
 have b3:=(HB5.out.2.2.2.1).cell 3 rfl
 have b4:=(HB5.out.2.2.2.1).cell 4 rfl
 have b5:=(HB5.out.2.2.2.1).cell 5 rfl
 have b6:=(HB5.out.2.2.2.1).cell 6 rfl
 have b7:=(HB5.out.2.2.2.1).cell 7 rfl
 have lb:=(HB5.out.2.2.2.1).lt
 have z0:=(HB5.out.2.2.2.2.1).cell 0 rfl
 have z1:=(HB5.out.2.2.2.2.1).cell 1 rfl
 have z2:=(HB5.out.2.2.2.2.1).cell 2 rfl
 have z3:=(HB5.out.2.2.2.2.1).cell 3 rfl
 have z4:=(HB5.out.2.2.2.2.1).cell 4 rfl
 have z5:=(HB5.out.2.2.2.2.1).cell 5 rfl
 have z6:=(HB5.out.2.2.2.2.1).cell 6 rfl
 have z7:=(HB5.out.2.2.2.2.1).cell 7 rfl
 have lz:=(HB5.out.2.2.2.2.1).lt
 have fzz0:=(HB5.out.2.2.2.2.1).frozen 0
 have fzz1:=(HB5.out.2.2.2.2.1).frozen 1
 have fzz2:=(HB5.out.2.2.2.2.1).frozen 2
 have fzz3:=(HB5.out.2.2.2.2.1).frozen 3
 have fzz4:=(HB5.out.2.2.2.2.1).frozen 4
 have fzz5:=(HB5.out.2.2.2.2.1).frozen 5
 have fzz6:=(HB5.out.2.2.2.2.1).frozen 6
 have fzz7:=(HB5.out.2.2.2.2.1).frozen 7
 have o0:=(HB5.out.2.2.2.2.2).cell 0 rfl
 have o1:=(HB5.out.2.2.2.2.2).cell 1 rfl
 have o2:=(HB5.out.2.2.2.2.2).cell 2 rfl
 have o3:=(HB5.out.2.2.2.2.2).cell 3 rfl
 have o4:=(HB5.out.2.2.2.2.2).cell 4 rfl
 have o5:=(HB5.out.2.2.2.2.2).cell 5 rfl
 have o6:=(HB5.out.2.2.2.2.2).cell 6 rfl
 have o7:=(HB5.out.2.2.2.2.2).cell 7 rfl
 have lo:=(HB5.out.2.2.2.2.2).lt
 have fzo0:=(HB5.out.2.2.2.2.2).frozen 0
 have fzo1:=(HB5.out.2.2.2.2.2).frozen 1
 have fzo2:=(HB5.out.2.2.2.2.2).frozen 2
 have fzo3:=(HB5.out.2.2.2.2.2).frozen 3
 have fzo4:=(HB5.out.2.2.2.2.2).frozen 4
 have fzo5:=(HB5.out.2.2.2.2.2).frozen 5
 have fzo6:=(HB5.out.2.2.2.2.2).frozen 6
 have fzo7:=(HB5.out.2.2.2.2.2).frozen 7
 refine wp_region_floatz (al:=[]) (mv:=fun _=>false) 3 [4,5] [0,1,2,3] (by kernel_rfl) (by kernel_rfl) rfl (fun _=>rfl) (fun _ _ _ _ h=>h) makes0 (cls_ext _) (by first | exact drew_in2 _ _ | exact drew_in _) (Nat.le_refl _) ?_
 simp only [withOps,List.filterMap_cons,List.filterMap_nil,List.getElem?_toArray,List.getElem?_cons_zero,List.getElem?_cons_succ,Option.map_some]
 (repeat (first | (apply walkF_pure (base:=fun p:Ext=>ext _ p) rfl rfl rfl (by kernel_rfl);· (intro px K hK;go_big_quiet_op;first | exact hK | (apply Exists.intro;refine ⟨fun _=>?_,?_⟩;(· ((go_at_call 170;with_reducible exact Gives.inFloat (HC.out _))));exact hK))) | (apply walkF_skip rfl;simp only [Act.put,List.setIfInBounds_toArray,List.set_cons_zero,List.set_cons_succ])))
 refine walkF_lazy (.bool (E == 0)) rfl rfl (fun _=>by simp [go_sem]) ?_
 simp only [Act.put,List.setIfInBounds_toArray,List.set_cons_zero,List.set_cons_succ]
 refine walkF_nil (end0 (fun W4 hW4=>?_))
 (try simp only [List.filterMap_cons,List.filterMap_nil,List.getElem?_toArray,List.getElem?_cons_zero,List.getElem?_cons_succ])
 have hUp:Up V5 W4:=hW4
 refine forgetW (fun wr=>Up w wr ∧ Box wr w.heap.size #[.slice a n c,.int .i64 home] 25 ∧ Box wr (w.heap.size + 1) #[.int .i64 (d.l.1),.int .i64 (d.l.2),.int .i64 (d.h.1),.int .i64 (d.h.2),.int .i64 (d.g)] 33 ∧ Box wr (w.heap.size + 1 + 1) #[.int .i64 (x0),.int .i64 (x1),.int .i64 (y0),.int .i64 (y1),.int .i64 (u0),.int .i64 (u1),.int .i64 (v0),.int .i64 (v1)] 69 ∧ Box wr (w.heap.size + 1 + 1 + 1) #[.int .i64 (0),.int .i64 (0),.int .i64 (0),.int .i64 (0),.int .i64 (0),.int .i64 (0),.int .i64 (0),.int .i64 (0)] 69 ∧ Box wr g3 #[.int .i64 (m0),.int .i64 (m1),.int .i64 (n0),.int .i64 (n1),.int .i64 (p0),.int .i64 (p1),.int .i64 (q0),.int .i64 (q1)] 69) ⟨(HB5.out.1).trans hUp,(HB5.out.2.1).up hUp,(HB5.out.2.2.1).up hUp,(HB5.out.2.2.2.1).up hUp,(HB5.out.2.2.2.2.1).up hUp,(HB5.out.2.2.2.2.2).up hUp⟩ ?_
 clear HB5 w0 w1 lw dd0 dd1 dd2 dd3 dd4 ldd b0 b1 b2 b3 b4 b5 b6 b7 lb z0 z1 z2 z3 z4 z5 z6 z7 lz fzz0 fzz1 fzz2 fzz3 fzz4 fzz5 fzz6 fzz7 o0 o1 o2 o3 o4 o5 o6 o7 lo fzo0 fzo1 fzo2 fzo3 fzo4 fzo5 fzo6 fzo7
 clear hUp
 rintro V6 ⟨hu,b0,b1,b2,b3,b4⟩
 have HB6:=hide (And.intro hu (And.intro b0 (And.intro b1 (And.intro b2 (And.intro b3 b4)))))
 clear hu b0 b1 b2 b3 b4
 have w0:=(HB6.out.2.1).cell 0 rfl
 have w1:=(HB6.out.2.1).cell 1 rfl
 have lw:=(HB6.out.2.1).lt
 have dd0:=(HB6.out.2.2.1).cell 0 rfl
 have dd1:=(HB6.out.2.2.1).cell 1 rfl
 have dd2:=(HB6.out.2.2.1).cell 2 rfl
 have dd3:=(HB6.out.2.2.1).cell 3 rfl
 have dd4:=(HB6.out.2.2.1).cell 4 rfl
 have ldd:=(HB6.out.2.2.1).lt
 have b0:=(HB6.out.2.2.2.1).cell 0 rfl
 have b1:=(HB6.out.2.2.2.1).cell 1 rfl
 have b2:=(HB6.out.2.2.2.1).cell 2 rfl
 have b3:=(HB6.out.2.2.2.1).cell 3 rfl
 have b4:=(HB6.out.2.2.2.1).cell 4 rfl
 have b5:=(HB6.out.2.2.2.1).cell 5 rfl
 have b6:=(HB6.out.2.2.2.1).cell 6 rfl
 have b7:=(HB6.out.2.2.2.1).cell 7 rfl
 have lb:=(HB6.out.2.2.2.1).lt
 have z0:=(HB6.out.2.2.2.2.1).cell 0 rfl
 have z1:=(HB6.out.2.2.2.2.1).cell 1 rfl
 have z2:=(HB6.out.2.2.2.2.1).cell 2 rfl
 have z3:=(HB6.out.2.2.2.2.1).cell 3 rfl
 have z4:=(HB6.out.2.2.2.2.1).cell 4 rfl
 have z5:=(HB6.out.2.2.2.2.1).cell 5 rfl
 have z6:=(HB6.out.2.2.2.2.1).cell 6 rfl
 have z7:=(HB6.out.2.2.2.2.1).cell 7 rfl
 have lz:=(HB6.out.2.2.2.2.1).lt
 have fzz0:=(HB6.out.2.2.2.2.1).frozen 0
 have fzz1:=(HB6.out.2.2.2.2.1).frozen 1
 have fzz2:=(HB6.out.2.2.2.2.1).frozen 2
 have fzz3:=(HB6.out.2.2.2.2.1).frozen 3
 have fzz4:=(HB6.out.2.2.2.2.1).frozen 4
 have fzz5:=(HB6.out.2.2.2.2.1).frozen 5
 have fzz6:=(HB6.out.2.2.2.2.1).frozen 6
 have fzz7:=(HB6.out.2.2.2.2.1).frozen 7
 have o0:=(HB6.out.2.2.2.2.2).cell 0 rfl
 have o1:=(HB6.out.2.2.2.2.2).cell 1 rfl
 have o2:=(HB6.out.2.2.2.2.2).cell 2 rfl
 have o3:=(HB6.out.2.2.2.2.2).cell 3 rfl
 have o4:=(HB6.out.2.2.2.2.2).cell 4 rfl
 have o5:=(HB6.out.2.2.2.2.2).cell 5 rfl
 have o6:=(HB6.out.2.2.2.2.2).cell 6 rfl
 have o7:=(HB6.out.2.2.2.2.2).cell 7 rfl
 have lo:=(HB6.out.2.2.2.2.2).lt
 have fzo0:=(HB6.out.2.2.2.2.2).frozen 0
 have fzo1:=(HB6.out.2.2.2.2.2).frozen 1
 have fzo2:=(HB6.out.2.2.2.2.2).frozen 2
 have fzo3:=(HB6.out.2.2.2.2.2).frozen 3
 have fzo4:=(HB6.out.2.2.2.2.2).frozen 4
 have fzo5:=(HB6.out.2.2.2.2.2).frozen 5
 have fzo6:=(HB6.out.2.2.2.2.2).frozen 6
 have fzo7:=(HB6.out.2.2.2.2.2).frozen 7
 clear hW4
 have n3:g3 ≠ w.heap.size + 1 + 1 + 1:=by omega
 go_wp2
 refine forgetW (fun WF=>Up w WF ∧ Box WF (w.heap.size + 1 + 1 + 1) #[.int .i64 (m0),.int .i64 (m1),.int .i64 (n0),.int .i64 (n1),.int .i64 (p0),.int .i64 (p1),.int .i64 (q0),.int .i64 (q1)] 69) ⟨(by repeat (first | with_reducible exact HB6.out.1 | with_reducible exact Up.refl _ | with_reducible apply Up.ext | with_reducible apply Up.alloc | with_reducible apply Up.drew | (with_reducible refine Up.setCell ?_ (by simp only;omega) _))),(by (repeat (first | with_reducible apply Box.ext | with_reducible apply Box.alloc | with_reducible apply Box.drew));exact ((((((((HB6.out.2.2.2.2.1).set 0 (.int .i64 m0)).set 1 (.int .i64 m1)).set 2 (.int .i64 n0)).set 3 (.int .i64 n1)).set 4 (.int .i64 p0)).set 5 (.int .i64 p1)).set 6 (.int .i64 q0)).set 7 (.int .i64 q1))⟩ ?_
 rintro WF ⟨huF,hbF⟩
 have e0:=hbF.cell 0 rfl
 have e1:=hbF.cell 1 rfl
 have e2:=hbF.cell 2 rfl
 have e3:=hbF.cell 3 rfl
 have e4:=hbF.cell 4 rfl
 have e5:=hbF.cell 5 rfl
 have e6:=hbF.cell 6 rfl
 have e7:=hbF.cell 7 rfl
 (refine bodyPost_give huF rfl ⟨_,(by simp [results,Tryz.results131,go_sem,e0,e1,e2,e3,e4,e5,e6,e7];rfl),?_⟩)
 rfl
end Go.Proofs.YteafglginnonnaaGreat
/- A copy of a world that shares no lists: it lies in new blocks, each track in a block of its own. Conditions: the world is small. -/
namespace Go.Proofs.YteafglginnonnaaGreat
set_option linter.unusedVariables false
set_option linter.unusedSimpArgs false
open Go.RowKit
def TrIn (W:World) (t:Nat) (tr:List (Int × Int)):Prop:=∃ T,Box W t T 48 ∧ ∀ k p,tr[k]? = some p → T[k * 2]? = some (.int .i64 p.1) ∧ T[k * 2 + 1]? = some (.int .i64 p.2)
def ROw (base:Nat) (sv:Value) (W:World) (x:Bod × Nat) (vs:List Value):Prop :=
 ∃ cap,vs = [.int .i64 x.1.mu,.int .i64 x.1.radius,.slice (some ⟨x.2,0,none⟩) x.1.track.length cap] ∧ (I64 x.1.mu ∧ I64 x.1.radius) ∧ base ≤ x.2 ∧ sv.ownBlock ≠ some x.2 ∧ TrIn W x.2 x.1.track
def flatV (tr:List (Int × Int)):List Value:=(tr.map fun p=>[Value.int .i64 p.1,Value.int .i64 p.2]).flatten
theorem TrIn.grown {W W':World} {t:Nat} {tr:List (Int × Int)} (h:TrIn W t tr) {row:Option Nat} (hg:W.grownBy W' row) (hr:row ≠ some t):TrIn W' t tr:=let ⟨T,h1,h2⟩:=h;⟨T,h1.grown hg hr,h2⟩
theorem TrIn.alloc {W:World} {t:Nat} {tr:List (Int × Int)} (h:TrIn W t tr) (o:Obj):TrIn (W.alloc o) t tr:=let ⟨T,h1,h2⟩:=h;⟨T,h1.alloc o,h2⟩
theorem TrIn.other {W:World} {t:Nat} {tr:List (Int × Int)} (h:TrIn W t tr) {b:Nat} (hb:t ≠ b) (i:Nat) (v:Value):TrIn (W.setCell ⟨b,i,none⟩ v) t tr:=let ⟨T,h1,h2⟩:=h;⟨T,h1.other hb i v,h2⟩
theorem TrIn.lt {W:World} {t:Nat} {tr:List (Int × Int)} (h:TrIn W t tr):t < W.heap.size:=let ⟨_,h1,_⟩:=h;h1.lt
theorem TrIn.up {W W':World} {t:Nat} {tr:List (Int × Int)} (h:TrIn W t tr) (hu:Up W W'):TrIn W' t tr:=let ⟨T,h1,h2⟩:=h;⟨T,h1.up hu,h2⟩
theorem stopA {P:Program} {ops:Array Oper} {Q:Exit → Act → World → Prop} {o:Oper} {rest:List Oper} {a:Act} {w:World} {ar:Array Operand} {ts:Array TypeId} (_:o.op = .call { callee:=.builtin .append,args:=ar,argTypes:=ts }) (h:Hid (wpList P ops Q (o :: rest) a w)):wpList P ops Q (o :: rest) a w:=h.out
def OwS (w:World) (a:Option Addr) (n c:Nat) (home:Int) (bs:List Bod) (k:Nat) (sv:Value) (wr:World):Prop :=
 Up w wr ∧ Box wr w.heap.size #[.slice a n c,.int .i64 home] 25 ∧ Box wr (w.heap.size + 1) #[.slice none 0 0,.int .i64 0] 25 ∧
  ∃ (els:List (Bod × Nat)) (xs:List Value),wr.ownsRow (w.heap.size + 2) 110 3 sv els.length xs ∧ RowOf 3 (ROw (w.heap.size + 2) sv wr) els xs ∧ els.map Prod.fst = bs.take k ∧ els.length = k ∧ (els.map Prod.snd).Nodup
end Go.Proofs.YteafglginnonnaaGreat
