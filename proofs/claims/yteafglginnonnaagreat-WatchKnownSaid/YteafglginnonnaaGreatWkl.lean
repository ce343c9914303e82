/- The chapter's examples of layer 6, walked. Conditions: none. -/
import Derived.Test.YteafglginnonnaaGreatW6b
import Derived.Test.YteafglginnonnaaGreatVO
import Derived.Test.YteafglginnonnaaGreatRefD
import Derived.Test.YteafglginnonnaaGreatMade
namespace Go.Proofs.YteafglginnonnaaGreat
set_option linter.unusedVariables false
set_option linter.unusedSimpArgs false
open Go.RowKit Go.Shelf
set_option maxRecDepth 100000 in
set_option maxHeartbeats 100000000 in
theorem wknown_law (HD:DelC) (w:World):Gives Tryz.prog 4 #[] w (.bool true):=by
 have HA:=hide (fun w=>awake6_any w)
 (unfold Gives;go_enter Tryz.func4,Tryz.ntmps4)
 go_wp2_with fail
 go_at_call 15
 refine (shown6_any _).mono ?_
 rintro _ W1 ⟨a,n,c,sa,sn,sc,ca,cn,cc,px,rfl,hL1,hW1⟩
 have hu1:Up w W1:=by rw [hW1];exact (by repeat (first | with_reducible exact Up.refl _ | with_reducible apply Up.plus | apply Up.ext | apply Up.alloc | apply Up.drew | (refine Up.setCell ?_ (by simp;try omega) _)))
 clear hW1
 go_wp2_with fail
 go_at_call 16
 refine (radar6_any _).mono ?_
 intro p1
 go_wp2_with fail
 go_at_call 17
 refine forgetC (fun U=>Up w U ∧ SkyL (fun b=>w.heap.size ≤ b) U a n c sa sn sc ca cn cc shownS) ⟨hu1.trans (by repeat (first | with_reducible exact Up.refl _ | with_reducible apply Up.plus | apply Up.ext | apply Up.alloc | apply Up.drew | (refine Up.setCell ?_ (by simp;try omega) _))),hL1.up (by repeat (first | with_reducible exact Up.refl _ | with_reducible apply Up.plus | apply Up.ext | apply Up.alloc | apply Up.drew | (refine Up.setCell ?_ (by simp;try omega) _)))⟩ ?_
 clear hL1 hu1
 rintro V ⟨huw,hL0⟩
 have HL:=hide hL0
 have HU:=hide huw
 clear hL0 huw
 have F1:=hide (fun W (hu:Up V W)=>show Gives Tryz.prog 18 #[.agg #[.slice a n c,.int .i64 0,.slice sa sn sc,.slice ca cn cc],.agg #[.int .i64 2,.int .i64 1,.int .i64 0,.int .i64 0,.int .i64 0,.int .i64 0,.int .i64 2,.int .i64 100,.int .i64 0,.int .i64 3,.bool true],.agg #[.int .i64 (60),.int .i64 (80)]] W (.bool true) from by have:=wField_any (HL.out.up hu) radarO (60,80);rw [kn_f1] at this;exact this)
 have F2:=hide (fun W (hu:Up V W)=>show Gives Tryz.prog 18 #[.agg #[.slice a n c,.int .i64 0,.slice sa sn sc,.slice ca cn cc],.agg #[.int .i64 2,.int .i64 1,.int .i64 0,.int .i64 0,.int .i64 0,.int .i64 0,.int .i64 2,.int .i64 100,.int .i64 0,.int .i64 3,.bool true],.agg #[.int .i64 (61),.int .i64 (80)]] W (.bool false) from by have:=wField_any (HL.out.up hu) radarO (61,80);rw [kn_f2] at this;exact this)
 have F3:=hide (fun W (hu:Up V W)=>show Gives Tryz.prog 18 #[.agg #[.slice a n c,.int .i64 0,.slice sa sn sc,.slice ca cn cc],.agg #[.int .i64 1,.int .i64 1,.int .i64 1,.int .i64 0,.int .i64 1,.int .i64 0,.int .i64 1000,.int .i64 1000,.int .i64 500000,.int .i64 1,.bool false],.agg #[.int .i64 (100),.int .i64 (50)]] W (.bool true) from by have:=wField_any (HL.out.up hu) scopeO (100,50);rw [kn_f3] at this;exact this)
 have F4:=hide (fun W (hu:Up V W)=>show Gives Tryz.prog 18 #[.agg #[.slice a n c,.int .i64 0,.slice sa sn sc,.slice ca cn cc],.agg #[.int .i64 1,.int .i64 1,.int .i64 1,.int .i64 0,.int .i64 1,.int .i64 0,.int .i64 1000,.int .i64 1000,.int .i64 500000,.int .i64 1,.bool false],.agg #[.int .i64 (100),.int .i64 (51)]] W (.bool false) from by have:=wField_any (HL.out.up hu) scopeO (100,51);rw [kn_f4] at this;exact this)
 have R1:=hide (fun W (hu:Up V W)=>show Gives Tryz.prog 19 #[.agg #[.slice a n c,.int .i64 0,.slice sa sn sc,.slice ca cn cc],.agg #[.int .i64 1,.int .i64 1,.int .i64 1,.int .i64 0,.int .i64 1,.int .i64 0,.int .i64 1000,.int .i64 1000,.int .i64 500000,.int .i64 1,.bool false],.agg #[.int .i64 (100),.int .i64 (10)]] W (.tuple #[.agg #[.int .i64 (99000),.int .i64 (101000)],.bool true]) from by have:=wReads_any (HL.out.up hu) scopeO (100,10);rw [kn_r1] at this;exact this)
 have R2:=hide (fun W (hu:Up V W)=>show Gives Tryz.prog 19 #[.agg #[.slice a n c,.int .i64 0,.slice sa sn sc,.slice ca cn cc],.agg #[.int .i64 1,.int .i64 1,.int .i64 1,.int .i64 0,.int .i64 1,.int .i64 0,.int .i64 1000,.int .i64 1000,.int .i64 500000,.int .i64 1,.bool false],.agg #[.int .i64 (-5),.int .i64 (0)]] W (.tuple #[.agg #[.int .i64 (0),.int .i64 (0)],.bool false]) from by have:=wReads_any (HL.out.up hu) scopeO (-5,0);rw [kn_r2] at this;exact this)
 have VW:=hide (fun W (hu:Up V W)=>show Gives Tryz.prog 21 #[.agg #[.slice a n c,.int .i64 0,.slice sa sn sc,.slice ca cn cc],.agg #[.int .i64 2,.int .i64 1,.int .i64 0,.int .i64 0,.int .i64 0,.int .i64 0,.int .i64 2,.int .i64 100,.int .i64 0,.int .i64 3,.bool true],.agg #[.int .i64 (30),.int .i64 (33),.int .i64 (40),.int .i64 (44)]] W (.tuple #[.agg #[.bool true,.bool true,.int .i64 48,.int .i64 57],.int .i64 0]) from by have:=wView_any (HL.out.up hu) radarO (30,33,40,44);rw [kn_v] at this;exact this)
 have A1:=hide (fun W (hu:Up V W)=>show Gives Tryz.prog 22 #[.agg #[.slice a n c,.int .i64 0,.slice sa sn sc,.slice ca cn cc],.agg #[.int .i64 2,.int .i64 1,.int .i64 0,.int .i64 0,.int .i64 0,.int .i64 0,.int .i64 2,.int .i64 100,.int .i64 0,.int .i64 3,.bool true],.agg #[.int .i64 (30),.int .i64 (33),.int .i64 (40),.int .i64 (44)],.agg #[.int .i64 (60),.int .i64 (61),.int .i64 (0),.int .i64 (0)]] W (.bool true) from by have:=wApart_any (HL.out.up hu) radarO (30,33,40,44) (60,61,0,0);rw [kn_a1] at this;exact this)
 have A2:=hide (fun W (hu:Up V W)=>show Gives Tryz.prog 22 #[.agg #[.slice a n c,.int .i64 0,.slice sa sn sc,.slice ca cn cc],.agg #[.int .i64 2,.int .i64 1,.int .i64 0,.int .i64 0,.int .i64 0,.int .i64 0,.int .i64 2,.int .i64 100,.int .i64 0,.int .i64 3,.bool true],.agg #[.int .i64 (30),.int .i64 (33),.int .i64 (40),.int .i64 (44)],.agg #[.int .i64 (200),.int .i64 (201),.int .i64 (0),.int .i64 (0)]] W (.bool true) from by have:=wApart_any (HL.out.up hu) radarO (30,33,40,44) (200,201,0,0);rw [kn_a2] at this;exact this)
 have W1:=hide (fun W (hu:Up V W) (g1 g2 g3:Nat) (h1:Box W g1 #[.int .i64 (30),.int .i64 (33),.int .i64 (40),.int .i64 (44),.int .i64 (0),.int .i64 (0),.int .i64 (0),.int .i64 (0),.int .i64 (60),.int .i64 (61),.int .i64 (0),.int .i64 (0),.int .i64 (0),.int .i64 (0),.int .i64 (0),.int .i64 (0)] 69) (h2:Box W g2 #[.int .i64 2,.int .i64 1,.int .i64 0,.int .i64 0,.int .i64 0,.int .i64 0,.int .i64 2,.int .i64 100,.int .i64 0,.int .i64 3,.bool true] 50) (h3:Box W g3 #[.int .i64 (0)] 3)=>show Gives Tryz.prog 13 #[.agg #[.slice a n c,.int .i64 0,.slice sa sn sc,.slice ca cn cc],.agg #[.int .i64 (0),.int .i64 (0),.int .i64 (0),.int .i64 (0),.int .i64 (0)],.int .i64 0,.slice (some ⟨g1,0,none⟩) 2 2,.slice (some ⟨g2,0,none⟩) 1 1,.slice (some ⟨g3,0,none⟩) 1 1,.int .i64 3] W (.tuple #[.int .i64 1,.int .i64 0]) from by
  have hB:Lst TBox (fun _=>True) W (.slice (some ⟨g1,0,none⟩) 2 2) [kboxA,kboxB]:=Lst.two (T:=TBox) (x:=kboxA) (y:=kboxB) h1
  have hO:Lst TOff (fun b=>0 ≤ b) W (.slice (some ⟨g2,0,none⟩) 1 1) [radarO]:=(Own.one (T:=TOff) (x:=radarO) (base:=0) h2 (Nat.zero_le _)).lies (by decide)
  have hI:Lst TInt (fun b=>0 ≤ b) W (.slice (some ⟨g3,0,none⟩) 1 1) [(0:Int)]:=(Own.one (T:=TInt) (x:=(0:Int)) (base:=0) h3 (Nat.zero_le _)).lies (by decide)
  have:=wWorst_any HD (HL.out.up hu) noDr 0 (boxes_of hB) hO hI 3
  rw [kn_w1] at this
  exact this)
 have W2:=hide (fun W (hu:Up V W) (g1 g2:Nat) (h1:Box W g1 #[.int .i64 (30),.int .i64 (33),.int .i64 (40),.int .i64 (44),.int .i64 (0),.int .i64 (0),.int .i64 (0),.int .i64 (0),.int .i64 (60),.int .i64 (61),.int .i64 (0),.int .i64 (0),.int .i64 (0),.int .i64 (0),.int .i64 (0),.int .i64 (0)] 69) (h2:Box W g2 #[.int .i64 2,.int .i64 1,.int .i64 0,.int .i64 0,.int .i64 0,.int .i64 0,.int .i64 2,.int .i64 100,.int .i64 0,.int .i64 3,.bool true] 50)=>show Gives Tryz.prog 13 #[.agg #[.slice a n c,.int .i64 0,.slice sa sn sc,.slice ca cn cc],.agg #[.int .i64 (0),.int .i64 (0),.int .i64 (0),.int .i64 (0),.int .i64 (0)],.int .i64 0,.slice (some ⟨g1,0,none⟩) 2 2,.slice (some ⟨g2,0,none⟩) 1 1,.slice none 0 0,.int .i64 3] W (.tuple #[.int .i64 2,.int .i64 0]) from by
  have hB:Lst TBox (fun _=>True) W (.slice (some ⟨g1,0,none⟩) 2 2) [kboxA,kboxB]:=Lst.two (T:=TBox) (x:=kboxA) (y:=kboxB) h1
  have hO:Lst TOff (fun b=>0 ≤ b) W (.slice (some ⟨g2,0,none⟩) 1 1) [radarO]:=(Own.one (T:=TOff) (x:=radarO) (base:=0) h2 (Nat.zero_le _)).lies (by decide)
  have:=wWorst_any HD (HL.out.up hu) noDr 0 (boxes_of hB) hO (Lst.nil0 TInt (fun _=>True) W none 0) 3
  rw [kn_w2] at this
  exact this)
 refine (scope6_any _).mono ?_
 intro p2
 go_wp2_with fail
 go_at_call 18
 obtain ⟨q,hq⟩:∃ g,g = V.heap.size + p2.os.size:=⟨_,rfl⟩
 try rw [← hq]
 refine forgetK (fun wr=>Up V wr ∧ Box wr q #[.slice a n c,.int .i64 0,.slice sa sn sc,.slice ca cn cc] 29 ∧ Box wr (q + 1) #[.int .i64 2,.int .i64 1,.int .i64 0,.int .i64 0,.int .i64 0,.int .i64 0,.int .i64 2,.int .i64 100,.int .i64 0,.int .i64 3,.bool true] 50 ∧ Box wr (q + 1 + 1) #[.int .i64 1,.int .i64 1,.int .i64 1,.int .i64 0,.int .i64 1,.int .i64 0,.int .i64 1000,.int .i64 1000,.int .i64 500000,.int .i64 1,.bool false] 50) ⟨(by repeat (first | with_reducible exact Up.refl _ | with_reducible apply Up.plus | apply Up.ext | apply Up.alloc | apply Up.drew | (refine Up.setCell ?_ (by simp;try omega) _))),by rw [hq];exact (by repeat (first | exact Box.mk rfl | (refine Box.mk ?_;simp;done) | apply Box.ext | apply Box.drew | apply Box.alloc | apply Box.two1 | (refine Box.other ?_ (by omega) _ _))),by rw [hq];exact (by repeat (first | exact Box.mk rfl | (refine Box.mk ?_;simp;done) | apply Box.ext | apply Box.drew | apply Box.alloc | apply Box.two1 | (refine Box.other ?_ (by omega) _ _))),by rw [hq];exact (by repeat (first | exact Box.mk rfl | (refine Box.mk ?_;simp;done) | apply Box.ext | apply Box.drew | apply Box.alloc | apply Box.two1 | (refine Box.other ?_ (by omega) _ _)))⟩ ?_
 clear hq
 rintro V0 ⟨hu,b0,b1,b2⟩
 have HB0:=hide (And.intro hu (And.intro b0 (And.intro b1 b2)))
 clear hu b0 b1 b2
 have s0:=(HB0.out.2.1).cell 0 rfl
 have s1:=(HB0.out.2.1).cell 1 rfl
 have s2:=(HB0.out.2.1).cell 2 rfl
 have s3:=(HB0.out.2.1).cell 3 rfl
 have ls:=(HB0.out.2.1).lt
 have r0:=(HB0.out.2.2.1).cell 0 rfl
 have r1:=(HB0.out.2.2.1).cell 1 rfl
 have r2:=(HB0.out.2.2.1).cell 2 rfl
 have r3:=(HB0.out.2.2.1).cell 3 rfl
 have r4:=(HB0.out.2.2.1).cell 4 rfl
 have r5:=(HB0.out.2.2.1).cell 5 rfl
 have r6:=(HB0.out.2.2.1).cell 6 rfl
 have r7:=(HB0.out.2.2.1).cell 7 rfl
 have r8:=(HB0.out.2.2.1).cell 8 rfl
 have r9:=(HB0.out.2.2.1).cell 9 rfl
 have r10:=(HB0.out.2.2.1).cell 10 rfl
 have lr:=(HB0.out.2.2.1).lt
 have o0:=(HB0.out.2.2.2).cell 0 rfl
 have o1:=(HB0.out.2.2.2).cell 1 rfl
 have o2:=(HB0.out.2.2.2).cell 2 rfl
 have o3:=(HB0.out.2.2.2).cell 3 rfl
 have o4:=(HB0.out.2.2.2).cell 4 rfl
 have o5:=(HB0.out.2.2.2).cell 5 rfl
 have o6:=(HB0.out.2.2.2).cell 6 rfl
 have o7:=(HB0.out.2.2.2).cell 7 rfl
 have o8:=(HB0.out.2.2.2).cell 8 rfl
 have o9:=(HB0.out.2.2.2).cell 9 rfl
 have o10:=(HB0.out.2.2.2).cell 10 rfl
 have lo:=(HB0.out.2.2.2).lt
 refine (F1.out _ (by repeat (first | with_reducible exact HB0.out.1 | with_reducible exact Up.refl _ | with_reducible apply Up.ext | with_reducible apply Up.alloc | with_reducible apply Up.drew | (with_reducible refine Up.setCell ?_ (by simp only;omega) _)))).mono ?_
 intro p3
 go_wp2_with (first | (go_at_call 18;(with_reducible refine (F2.out _ (by repeat (first | with_reducible exact HB0.out.1 | with_reducible exact Up.refl _ | with_reducible apply Up.ext | with_reducible apply Up.alloc | with_reducible apply Up.drew | (with_reducible refine Up.setCell ?_ (by simp only;omega) _)))).mono ?_);intro _) | (go_at_call 18;(with_reducible refine (F3.out _ (by repeat (first | with_reducible exact HB0.out.1 | with_reducible exact Up.refl _ | with_reducible apply Up.ext | with_reducible apply Up.alloc | with_reducible apply Up.drew | (with_reducible refine Up.setCell ?_ (by simp only;omega) _)))).mono ?_);intro _) | (go_at_call 18;(with_reducible refine (F4.out _ (by repeat (first | with_reducible exact HB0.out.1 | with_reducible exact Up.refl _ | with_reducible apply Up.ext | with_reducible apply Up.alloc | with_reducible apply Up.drew | (with_reducible refine Up.setCell ?_ (by simp only;omega) _)))).mono ?_);intro _))
 go_at_call 19
 refine forgetK (fun wr=>Up V wr ∧ Box wr q #[.slice a n c,.int .i64 0,.slice sa sn sc,.slice ca cn cc] 29 ∧ Box wr (q + 1) #[.int .i64 2,.int .i64 1,.int .i64 0,.int .i64 0,.int .i64 0,.int .i64 0,.int .i64 2,.int .i64 100,.int .i64 0,.int .i64 3,.bool true] 50 ∧ Box wr (q + 1 + 1) #[.int .i64 1,.int .i64 1,.int .i64 1,.int .i64 0,.int .i64 1,.int .i64 0,.int .i64 1000,.int .i64 1000,.int .i64 500000,.int .i64 1,.bool false] 50) ⟨(by repeat (first | with_reducible exact HB0.out.1 | with_reducible exact Up.refl _ | with_reducible apply Up.ext | with_reducible apply Up.alloc | with_reducible apply Up.drew | (with_reducible refine Up.setCell ?_ (by simp only;omega) _))),(by repeat (first | with_reducible exact HB0.out.2.1 | with_reducible apply Box.ext | with_reducible apply Box.alloc | with_reducible apply Box.drew | (with_reducible refine Box.other ?_ (by omega) _ _))),(by repeat (first | with_reducible exact HB0.out.2.2.1 | with_reducible apply Box.ext | with_reducible apply Box.alloc | with_reducible apply Box.drew | (with_reducible refine Box.other ?_ (by omega) _ _))),(by repeat (first | with_reducible exact HB0.out.2.2.2 | with_reducible apply Box.ext | with_reducible apply Box.alloc | with_reducible apply Box.drew | (with_reducible refine Box.other ?_ (by omega) _ _)))⟩ ?_
 clear HB0 s0 s1 s2 s3 ls r0 r1 r2 r3 r4 r5 r6 r7 r8 r9 r10 lr o0 o1 o2 o3 o4 o5 o6 o7 o8 o9 o10 lo
 rintro V1 ⟨hu,b0,b1,b2⟩
 have HB1:=hide (And.intro hu (And.intro b0 (And.intro b1 b2)))
 clear hu b0 b1 b2
 have s0:=(HB1.out.2.1).cell 0 rfl
 have s1:=(HB1.out.2.1).cell 1 rfl
 have s2:=(HB1.out.2.1).cell 2 rfl
 have s3:=(HB1.out.2.1).cell 3 rfl
 have ls:=(HB1.out.2.1).lt
 have r0:=(HB1.out.2.2.1).cell 0 rfl
 have r1:=(HB1.out.2.2.1).cell 1 rfl
 have r2:=(HB1.out.2.2.1).cell 2 rfl
 have r3:=(HB1.out.2.2.1).cell 3 rfl
 have r4:=(HB1.out.2.2.1).cell 4 rfl
 have r5:=(HB1.out.2.2.1).cell 5 rfl
 have r6:=(HB1.out.2.2.1).cell 6 rfl
 have r7:=(HB1.out.2.2.1).cell 7 rfl
 have r8:=(HB1.out.2.2.1).cell 8 rfl
 have r9:=(HB1.out.2.2.1).cell 9 rfl
 have r10:=(HB1.out.2.2.1).cell 10 rfl
 have lr:=(HB1.out.2.2.1).lt
 have o0:=(HB1.out.2.2.2).cell 0 rfl
 have o1:=(HB1.out.2.2.2).cell 1 rfl
 have o2:=(HB1.out.2.2.2).cell 2 rfl
 have o3:=(HB1.out.2.2.2).cell 3 rfl
 have o4:=(HB1.out.2.2.2).cell 4 rfl
 have o5:=(HB1.out.2.2.2).cell 5 rfl
 have o6:=(HB1.out.2.2.2).cell 6 rfl
 have o7:=(HB1.out.2.2.2).cell 7 rfl
 have o8:=(HB1.out.2.2.2).cell 8 rfl
 have o9:=(HB1.out.2.2.2).cell 9 rfl
 have o10:=(HB1.out.2.2.2).cell 10 rfl
 have lo:=(HB1.out.2.2.2).lt
 refine (R1.out _ (by repeat (first | with_reducible exact HB1.out.1 | with_reducible exact Up.refl _ | with_reducible apply Up.ext | with_reducible apply Up.alloc | with_reducible apply Up.drew | (with_reducible refine Up.setCell ?_ (by simp only;omega) _)))).mono ?_
 intro p4
 go_wp2_with fail
 go_at_call 19
 obtain ⟨g4,hg4⟩:∃ g,g = V1.heap.size + p4.os.size:=⟨_,rfl⟩
 try rw [← hg4]
 refine forgetK (fun wr=>Up V wr ∧ Box wr q #[.slice a n c,.int .i64 0,.slice sa sn sc,.slice ca cn cc] 29 ∧ Box wr (q + 1) #[.int .i64 2,.int .i64 1,.int .i64 0,.int .i64 0,.int .i64 0,.int .i64 0,.int .i64 2,.int .i64 100,.int .i64 0,.int .i64 3,.bool true] 50 ∧ Box wr (q + 1 + 1) #[.int .i64 1,.int .i64 1,.int .i64 1,.int .i64 0,.int .i64 1,.int .i64 0,.int .i64 1000,.int .i64 1000,.int .i64 500000,.int .i64 1,.bool false] 50 ∧ Box wr g4 #[.int .i64 (99000),.int .i64 (101000)] 31) ⟨(by repeat (first | with_reducible exact HB1.out.1 | with_reducible exact Up.refl _ | with_reducible apply Up.ext | with_reducible apply Up.alloc | with_reducible apply Up.drew | (with_reducible refine Up.setCell ?_ (by simp only;omega) _))),(by repeat (first | with_reducible exact HB1.out.2.1 | with_reducible apply Box.ext | with_reducible apply Box.alloc | with_reducible apply Box.drew | (with_reducible refine Box.other ?_ (by omega) _ _))),(by repeat (first | with_reducible exact HB1.out.2.2.1 | with_reducible apply Box.ext | with_reducible apply Box.alloc | with_reducible apply Box.drew | (with_reducible refine Box.other ?_ (by omega) _ _))),(by repeat (first | with_reducible exact HB1.out.2.2.2 | with_reducible apply Box.ext | with_reducible apply Box.alloc | with_reducible apply Box.drew | (with_reducible refine Box.other ?_ (by omega) _ _))),by rw [hg4];exact Box.mk (ext_size _ _)⟩ ?_
 clear HB1 s0 s1 s2 s3 ls r0 r1 r2 r3 r4 r5 r6 r7 r8 r9 r10 lr o0 o1 o2 o3 o4 o5 o6 o7 o8 o9 o10 lo
 clear hg4
 rintro V2 ⟨hu,b0,b1,b2,b3⟩
 have HB2:=hide (And.intro hu (And.intro b0 (And.intro b1 (And.intro b2 b3))))
 clear hu b0 b1 b2 b3
 have s0:=(HB2.out.2.1).cell 0 rfl
 have s1:=(HB2.out.2.1).cell 1 rfl
 have s2:=(HB2.out.2.1).cell 2 rfl
 have s3:=(HB2.out.2.1).cell 3 rfl
 have ls:=(HB2.out.2.1).lt
 have r0:=(HB2.out.2.2.1).cell 0 rfl
 have r1:=(HB2.out.2.2.1).cell 1 rfl
 have r2:=(HB2.out.2.2.1).cell 2 rfl
 have r3:=(HB2.out.2.2.1).cell 3 rfl
 have r4:=(HB2.out.2.2.1).cell 4 rfl
 have r5:=(HB2.out.2.2.1).cell 5 rfl
 have r6:=(HB2.out.2.2.1).cell 6 rfl
 have r7:=(HB2.out.2.2.1).cell 7 rfl
 have r8:=(HB2.out.2.2.1).cell 8 rfl
 have r9:=(HB2.out.2.2.1).cell 9 rfl
 have r10:=(HB2.out.2.2.1).cell 10 rfl
 have lr:=(HB2.out.2.2.1).lt
 have o0:=(HB2.out.2.2.2.1).cell 0 rfl
 have o1:=(HB2.out.2.2.2.1).cell 1 rfl
 have o2:=(HB2.out.2.2.2.1).cell 2 rfl
 have o3:=(HB2.out.2.2.2.1).cell 3 rfl
 have o4:=(HB2.out.2.2.2.1).cell 4 rfl
 have o5:=(HB2.out.2.2.2.1).cell 5 rfl
 have o6:=(HB2.out.2.2.2.1).cell 6 rfl
 have o7:=(HB2.out.2.2.2.1).cell 7 rfl
 have o8:=(HB2.out.2.2.2.1).cell 8 rfl
 have o9:=(HB2.out.2.2.2.1).cell 9 rfl
 have o10:=(HB2.out.2.2.2.1).cell 10 rfl
 have lo:=(HB2.out.2.2.2.1).lt
 have x0:=(HB2.out.2.2.2.2).cell 0 rfl
 have x1:=(HB2.out.2.2.2.2).cell 1 rfl
 have lx:=(HB2.out.2.2.2.2).lt
 refine (R2.out _ (by repeat (first | with_reducible exact HB2.out.1 | with_reducible exact Up.refl _ | with_reducible apply Up.ext | with_reducible apply Up.alloc | with_reducible apply Up.drew | (with_reducible refine Up.setCell ?_ (by simp only;omega) _)))).mono ?_
 intro p5
 go_wp2_with fail
 go_at_call 20
 refine forgetK (fun wr=>Up V wr ∧ Box wr q #[.slice a n c,.int .i64 0,.slice sa sn sc,.slice ca cn cc] 29 ∧ Box wr (q + 1) #[.int .i64 2,.int .i64 1,.int .i64 0,.int .i64 0,.int .i64 0,.int .i64 0,.int .i64 2,.int .i64 100,.int .i64 0,.int .i64 3,.bool true] 50 ∧ Box wr (q + 1 + 1) #[.int .i64 1,.int .i64 1,.int .i64 1,.int .i64 0,.int .i64 1,.int .i64 0,.int .i64 1000,.int .i64 1000,.int .i64 500000,.int .i64 1,.bool false] 50 ∧ Box wr g4 #[.int .i64 (99000),.int .i64 (101000)] 31) ⟨(by repeat (first | with_reducible exact HB2.out.1 | with_reducible exact Up.refl _ | with_reducible apply Up.ext | with_reducible apply Up.alloc | with_reducible apply Up.drew | (with_reducible refine Up.setCell ?_ (by simp only;omega) _))),(by repeat (first | with_reducible exact HB2.out.2.1 | with_reducible apply Box.ext | with_reducible apply Box.alloc | with_reducible apply Box.drew | (with_reducible refine Box.other ?_ (by omega) _ _))),(by repeat (first | with_reducible exact HB2.out.2.2.1 | with_reducible apply Box.ext | with_reducible apply Box.alloc | with_reducible apply Box.drew | (with_reducible refine Box.other ?_ (by omega) _ _))),(by repeat (first | with_reducible exact HB2.out.2.2.2.1 | with_reducible apply Box.ext | with_reducible apply Box.alloc | with_reducible apply Box.drew | (with_reducible refine Box.other ?_ (by omega) _ _))),(by repeat (first | with_reducible exact HB2.out.2.2.2.2 | with_reducible apply Box.ext | with_reducible apply Box.alloc | with_reducible apply Box.drew | (with_reducible refine Box.other ?_ (by omega) _ _)))⟩ ?_
 clear HB2 s0 s1 s2 s3 ls r0 r1 r2 r3 r4 r5 r6 r7 r8 r9 r10 lr o0 o1 o2 o3 o4 o5 o6 o7 o8 o9 o10 lo x0 x1 lx
 rintro V3 ⟨hu,b0,b1,b2,b3⟩
 have HB3:=hide (And.intro hu (And.intro b0 (And.intro b1 (And.intro b2 b3))))
 clear hu b0 b1 b2 b3
 have s0:=(HB3.out.2.1).cell 0 rfl
 have s1:=(HB3.out.2.1).cell 1 rfl
 have s2:=(HB3.out.2.1).cell 2 rfl
 have s3:=(HB3.out.2.1).cell 3 rfl
 have ls:=(HB3.out.2.1).lt
 have r0:=(HB3.out.2.2.1).cell 0 rfl
 have r1:=(HB3.out.2.2.1).cell 1 rfl
 have r2:=(HB3.out.2.2.1).cell 2 rfl
 have r3:=(HB3.out.2.2.1).cell 3 rfl
 have r4:=(HB3.out.2.2.1).cell 4 rfl
 have r5:=(HB3.out.2.2.1).cell 5 rfl
 have r6:=(HB3.out.2.2.1).cell 6 rfl
 have r7:=(HB3.out.2.2.1).cell 7 rfl
 have r8:=(HB3.out.2.2.1).cell 8 rfl
 have r9:=(HB3.out.2.2.1).cell 9 rfl
 have r10:=(HB3.out.2.2.1).cell 10 rfl
 have lr:=(HB3.out.2.2.1).lt
 have o0:=(HB3.out.2.2.2.1).cell 0 rfl
 have o1:=(HB3.out.2.2.2.1).cell 1 rfl
 have o2:=(HB3.out.2.2.2.1).cell 2 rfl
 have o3:=(HB3.out.2.2.2.1).cell 3 rfl
 have o4:=(HB3.out.2.2.2.1).cell 4 rfl
 have o5:=(HB3.out.2.2.2.1).cell 5 rfl
 have o6:=(HB3.out.2.2.2.1).cell 6 rfl
 have o7:=(HB3.out.2.2.2.1).cell 7 rfl
 have o8:=(HB3.out.2.2.2.1).cell 8 rfl
 have o9:=(HB3.out.2.2.2.1).cell 9 rfl
 have o10:=(HB3.out.2.2.2.1).cell 10 rfl
 have lo:=(HB3.out.2.2.2.1).lt
 have x0:=(HB3.out.2.2.2.2).cell 0 rfl
 have x1:=(HB3.out.2.2.2.2).cell 1 rfl
 have lx:=(HB3.out.2.2.2.2).lt
 refine (xarea6_any _ _ _ _ _).mono ?_
 intro p6
 go_wp2_with fail
 go_at_call 20
 refine forgetK (fun wr=>Up V wr ∧ Box wr q #[.slice a n c,.int .i64 0,.slice sa sn sc,.slice ca cn cc] 29 ∧ Box wr (q + 1) #[.int .i64 2,.int .i64 1,.int .i64 0,.int .i64 0,.int .i64 0,.int .i64 0,.int .i64 2,.int .i64 100,.int .i64 0,.int .i64 3,.bool true] 50 ∧ Box wr (q + 1 + 1) #[.int .i64 1,.int .i64 1,.int .i64 1,.int .i64 0,.int .i64 1,.int .i64 0,.int .i64 1000,.int .i64 1000,.int .i64 500000,.int .i64 1,.bool false] 50 ∧ Box wr g4 #[.int .i64 (99000),.int .i64 (101000)] 31) ⟨(by repeat (first | with_reducible exact HB3.out.1 | with_reducible exact Up.refl _ | with_reducible apply Up.ext | with_reducible apply Up.alloc | with_reducible apply Up.drew | (with_reducible refine Up.setCell ?_ (by simp only;omega) _))),(by repeat (first | with_reducible exact HB3.out.2.1 | with_reducible apply Box.ext | with_reducible apply Box.alloc | with_reducible apply Box.drew | (with_reducible refine Box.other ?_ (by omega) _ _))),(by repeat (first | with_reducible exact HB3.out.2.2.1 | with_reducible apply Box.ext | with_reducible apply Box.alloc | with_reducible apply Box.drew | (with_reducible refine Box.other ?_ (by omega) _ _))),(by repeat (first | with_reducible exact HB3.out.2.2.2.1 | with_reducible apply Box.ext | with_reducible apply Box.alloc | with_reducible apply Box.drew | (with_reducible refine Box.other ?_ (by omega) _ _))),(by repeat (first | with_reducible exact HB3.out.2.2.2.2 | with_reducible apply Box.ext | with_reducible apply Box.alloc | with_reducible apply Box.drew | (with_reducible refine Box.other ?_ (by omega) _ _)))⟩ ?_
 clear HB3 s0 s1 s2 s3 ls r0 r1 r2 r3 r4 r5 r6 r7 r8 r9 r10 lr o0 o1 o2 o3 o4 o5 o6 o7 o8 o9 o10 lo x0 x1 lx
 rintro V4 ⟨hu,b0,b1,b2,b3⟩
 have HB4:=hide (And.intro hu (And.intro b0 (And.intro b1 (And.intro b2 b3))))
 clear hu b0 b1 b2 b3
 have s0:=(HB4.out.2.1).cell 0 rfl
 have s1:=(HB4.out.2.1).cell 1 rfl
 have s2:=(HB4.out.2.1).cell 2 rfl
 have s3:=(HB4.out.2.1).cell 3 rfl
 have ls:=(HB4.out.2.1).lt
 have r0:=(HB4.out.2.2.1).cell 0 rfl
 have r1:=(HB4.out.2.2.1).cell 1 rfl
 have r2:=(HB4.out.2.2.1).cell 2 rfl
 have r3:=(HB4.out.2.2.1).cell 3 rfl
 have r4:=(HB4.out.2.2.1).cell 4 rfl
 have r5:=(HB4.out.2.2.1).cell 5 rfl
 have r6:=(HB4.out.2.2.1).cell 6 rfl
 have r7:=(HB4.out.2.2.1).cell 7 rfl
 have r8:=(HB4.out.2.2.1).cell 8 rfl
 have r9:=(HB4.out.2.2.1).cell 9 rfl
 have r10:=(HB4.out.2.2.1).cell 10 rfl
 have lr:=(HB4.out.2.2.1).lt
 have o0:=(HB4.out.2.2.2.1).cell 0 rfl
 have o1:=(HB4.out.2.2.2.1).cell 1 rfl
 have o2:=(HB4.out.2.2.2.1).cell 2 rfl
 have o3:=(HB4.out.2.2.2.1).cell 3 rfl
 have o4:=(HB4.out.2.2.2.1).cell 4 rfl
 have o5:=(HB4.out.2.2.2.1).cell 5 rfl
 have o6:=(HB4.out.2.2.2.1).cell 6 rfl
 have o7:=(HB4.out.2.2.2.1).cell 7 rfl
 have o8:=(HB4.out.2.2.2.1).cell 8 rfl
 have o9:=(HB4.out.2.2.2.1).cell 9 rfl
 have o10:=(HB4.out.2.2.2.1).cell 10 rfl
 have lo:=(HB4.out.2.2.2.1).lt
 have x0:=(HB4.out.2.2.2.2).cell 0 rfl
 have x1:=(HB4.out.2.2.2.2).cell 1 rfl
 have lx:=(HB4.out.2.2.2.2).lt
 refine (xarea6_any _ _ _ _ _).mono ?_
 intro p7
 go_wp2_with fail
 go_at_call 21
 obtain ⟨g8,hg8⟩:∃ g,g = V4.heap.size + p7.os.size:=⟨_,rfl⟩
 try rw [← hg8]
 refine forgetK (fun wr=>Up V wr ∧ Box wr q #[.slice a n c,.int .i64 0,.slice sa sn sc,.slice ca cn cc] 29 ∧ Box wr (q + 1) #[.int .i64 2,.int .i64 1,.int .i64 0,.int .i64 0,.int .i64 0,.int .i64 0,.int .i64 2,.int .i64 100,.int .i64 0,.int .i64 3,.bool true] 50 ∧ Box wr (q + 1 + 1) #[.int .i64 1,.int .i64 1,.int .i64 1,.int .i64 0,.int .i64 1,.int .i64 0,.int .i64 1000,.int .i64 1000,.int .i64 500000,.int .i64 1,.bool false] 50 ∧ Box wr g4 #[.int .i64 (99000),.int .i64 (101000)] 31 ∧ Box wr g8 #[.int .i64 (30),.int .i64 (33),.int .i64 (40),.int .i64 (44)] 61 ∧ Box wr (g8 + 1) #[.int .i64 (60),.int .i64 (61),.int .i64 (0),.int .i64 (0)] 61) ⟨(by repeat (first | with_reducible exact HB4.out.1 | with_reducible exact Up.refl _ | with_reducible apply Up.ext | with_reducible apply Up.alloc | with_reducible apply Up.drew | (with_reducible refine Up.setCell ?_ (by simp only;omega) _))),(by repeat (first | with_reducible exact HB4.out.2.1 | with_reducible apply Box.ext | with_reducible apply Box.alloc | with_reducible apply Box.drew | (with_reducible refine Box.other ?_ (by omega) _ _))),(by repeat (first | with_reducible exact HB4.out.2.2.1 | with_reducible apply Box.ext | with_reducible apply Box.alloc | with_reducible apply Box.drew | (with_reducible refine Box.other ?_ (by omega) _ _))),(by repeat (first | with_reducible exact HB4.out.2.2.2.1 | with_reducible apply Box.ext | with_reducible apply Box.alloc | with_reducible apply Box.drew | (with_reducible refine Box.other ?_ (by omega) _ _))),(by repeat (first | with_reducible exact HB4.out.2.2.2.2 | with_reducible apply Box.ext | with_reducible apply Box.alloc | with_reducible apply Box.drew | (with_reducible refine Box.other ?_ (by omega) _ _))),by rw [hg8];exact (by repeat (first | exact Box.mk rfl | (refine Box.mk ?_;simp;done) | apply Box.ext | apply Box.drew | apply Box.alloc | apply Box.two1 | (refine Box.other ?_ (by omega) _ _))),by rw [hg8];exact (by repeat (first | exact Box.mk rfl | (refine Box.mk ?_;simp;done) | apply Box.ext | apply Box.drew | apply Box.alloc | apply Box.two1 | (refine Box.other ?_ (by omega) _ _)))⟩ ?_
 clear HB4 s0 s1 s2 s3 ls r0 r1 r2 r3 r4 r5 r6 r7 r8 r9 r10 lr o0 o1 o2 o3 o4 o5 o6 o7 o8 o9 o10 lo x0 x1 lx
 clear hg8
 rintro V5 ⟨hu,b0,b1,b2,b3,b4,b5⟩
 have HB5:=hide (And.intro hu (And.intro b0 (And.intro b1 (And.intro b2 (And.intro b3 (And.intro b4 b5))))))
 clear hu b0 b1 b2 b3 b4 b5
 have s0:=(HB5.out.2.1).cell 0 rfl
 have s1:=(HB5.out.2.1).cell 1 rfl
 have s2:=(HB5.out.2.1).cell 2 rfl
 have s3:=(HB5.out.2.1).cell 3 rfl
 have ls:=(HB5.out.2.1).lt
 have r0:=(HB5.out.2.2.1).cell 0 rfl
 have r1:=(HB5.out.2.2.1).cell 1 rfl
 have r2:=(HB5.out.2.2.1).cell 2 rfl
 have r3:=(HB5.out.2.2.1).cell 3 rfl
 have r4:=(HB5.out.2.2.1).cell 4 rfl
 have r5:=(HB5.out.2.2.1).cell 5 rfl
 have r6:=(HB5.out.2.2.1).cell 6 rfl
 have r7:=(HB5.out.2.2.1).cell 7 rfl
 have r8:=(HB5.out.2.2.1).cell 8 rfl
 have r9:=(HB5.out.2.2.1).cell 9 rfl
 have r10:=(HB5.out.2.2.1).cell 10 rfl
 have lr:=(HB5.out.2.2.1).lt
 have o0:=(HB5.out.2.2.2.1).cell 0 rfl
 have o1:=(HB5.out.2.2.2.1).cell 1 rfl
 have o2:=(HB5.out.2.2.2.1).cell 2 rfl
 have o3:=(HB5.out.2.2.2.1).cell 3 rfl
 have o4:=(HB5.out.2.2.2.1).cell 4 rfl
 have o5:=(HB5.out.2.2.2.1).cell 5 rfl
 have o6:=(HB5.out.2.2.2.1).cell 6 rfl
 have o7:=(HB5.out.2.2.2.1).cell 7 rfl
 have o8:=(HB5.out.2.2.2.1).cell 8 rfl
 have o9:=(HB5.out.2.2.2.1).cell 9 rfl
 have o10:=(HB5.out.2.2.2.1).cell 10 rfl
 have lo:=(HB5.out.2.2.2.1).lt
 have x0:=(HB5.out.2.2.2.2.1).cell 0 rfl
 have x1:=(HB5.out.2.2.2.2.1).cell 1 rfl
 have lx:=(HB5.out.2.2.2.2.1).lt
 have m0:=(HB5.out.2.2.2.2.2.1).cell 0 rfl
 have m1:=(HB5.out.2.2.2.2.2.1).cell 1 rfl
 have m2:=(HB5.out.2.2.2.2.2.1).cell 2 rfl
 have m3:=(HB5.out.2.2.2.2.2.1).cell 3 rfl
 have lm:=(HB5.out.2.2.2.2.2.1).lt
 have n0:=(HB5.out.2.2.2.2.2.2).cell 0 rfl
 have n1:=(HB5.out.2.2.2.2.2.2).cell 1 rfl
 have n2:=(HB5.out.2.2.2.2.2.2).cell 2 rfl
 have n3:=(HB5.out.2.2.2.2.2.2).cell 3 rfl
 have ln:=(HB5.out.2.2.2.2.2.2).lt
 refine (VW.out _ (by repeat (first | with_reducible exact HB5.out.1 | with_reducible exact Up.refl _ | with_reducible apply Up.ext | with_reducible apply Up.alloc | with_reducible apply Up.drew | (with_reducible refine Up.setCell ?_ (by simp only;omega) _)))).mono ?_
 intro p8
 go_wp2_with fail
 obtain ⟨g9,hg9⟩:∃ g,g = V5.heap.size + p8.os.size:=⟨_,rfl⟩
 try rw [← hg9]
 refine forgetW (fun wr=>Up V wr ∧ Box wr q #[.slice a n c,.int .i64 0,.slice sa sn sc,.slice ca cn cc] 29 ∧ Box wr (q + 1) #[.int .i64 2,.int .i64 1,.int .i64 0,.int .i64 0,.int .i64 0,.int .i64 0,.int .i64 2,.int .i64 100,.int .i64 0,.int .i64 3,.bool true] 50 ∧ Box wr (q + 1 + 1) #[.int .i64 1,.int .i64 1,.int .i64 1,.int .i64 0,.int .i64 1,.int .i64 0,.int .i64 1000,.int .i64 1000,.int .i64 500000,.int .i64 1,.bool false] 50 ∧ Box wr g4 #[.int .i64 (99000),.int .i64 (101000)] 31 ∧ Box wr g8 #[.int .i64 (30),.int .i64 (33),.int .i64 (40),.int .i64 (44)] 61 ∧ Box wr (g8 + 1) #[.int .i64 (60),.int .i64 (61),.int .i64 (0),.int .i64 (0)] 61) ⟨(by repeat (first | with_reducible exact HB5.out.1 | with_reducible exact Up.refl _ | with_reducible apply Up.ext | with_reducible apply Up.alloc | with_reducible apply Up.drew | (with_reducible refine Up.setCell ?_ (by simp only;omega) _))),(by repeat (first | with_reducible exact HB5.out.2.1 | with_reducible apply Box.ext | with_reducible apply Box.alloc | with_reducible apply Box.drew | (with_reducible refine Box.other ?_ (by omega) _ _))),(by repeat (first | with_reducible exact HB5.out.2.2.1 | with_reducible apply Box.ext | with_reducible apply Box.alloc | with_reducible apply Box.drew | (with_reducible refine Box.other ?_ (by omega) _ _))),(by repeat (first | with_reducible exact HB5.out.2.2.2.1 | with_reducible apply Box.ext | with_reducible apply Box.alloc | with_reducible apply Box.drew | (with_reducible refine Box.other ?_ (by omega) _ _))),(by repeat (first | with_reducible exact HB5.out.2.2.2.2.1 | with_reducible apply Box.ext | with_reducible apply Box.alloc | with_reducible apply Box.drew | (with_reducible refine Box.other ?_ (by omega) _ _))),(by repeat (first | with_reducible exact HB5.out.2.2.2.2.2.1 | with_reducible apply Box.ext | with_reducible apply Box.alloc | with_reducible apply Box.drew | (with_reducible refine Box.other ?_ (by omega) _ _))),(by repeat (first | with_reducible exact HB5.out.2.2.2.2.2.2 | with_reducible apply Box.ext | with_reducible apply Box.alloc | with_reducible apply Box.drew | (with_reducible refine Box.other ?_ (by omega) _ _)))⟩ ?_
 clear HB5 s0 s1 s2 s3 ls r0 r1 r2 r3 r4 r5 r6 r7 r8 r9 r10 lr o0 o1 o2 o3 o4 o5 o6 o7 o8 o9 o10 lo x0 x1 lx m0 m1 m2 m3 lm n0 n1 n2 n3 ln
 clear hg9
 rintro V6 ⟨hu,b0,b1,b2,b3,b4,b5⟩
 have HB6:=hide (And.intro hu (And.intro b0 (And.intro b1 (And.intro b2 (And.intro b3 (And.intro b4 b5))))))
 clear hu b0 b1 b2 b3 b4 b5
 have s0:=(HB6.out.2.1).cell 0 rfl
 have s1:=(HB6.out.2.1).cell 1 rfl
 have s2:=(HB6.out.2.1).cell 2 rfl
 have s3:=(HB6.out.2.1).cell 3 rfl
 have ls:=(HB6.out.2.1).lt
 have r0:=(HB6.out.2.2.1).cell 0 rfl
 have r1:=(HB6.out.2.2.1).cell 1 rfl
 have r2:=(HB6.out.2.2.1).cell 2 rfl
 have r3:=(HB6.out.2.2.1).cell 3 rfl
 have r4:=(HB6.out.2.2.1).cell 4 rfl
 have r5:=(HB6.out.2.2.1).cell 5 rfl
 have r6:=(HB6.out.2.2.1).cell 6 rfl
 have r7:=(HB6.out.2.2.1).cell 7 rfl
 have r8:=(HB6.out.2.2.1).cell 8 rfl
 have r9:=(HB6.out.2.2.1).cell 9 rfl
 have r10:=(HB6.out.2.2.1).cell 10 rfl
 have lr:=(HB6.out.2.2.1).lt
 have o0:=(HB6.out.2.2.2.1).cell 0 rfl
 have o1:=(HB6.out.2.2.2.1).cell 1 rfl
 have o2:=(HB6.out.2.2.2.1).cell 2 rfl
 have o3:=(HB6.out.2.2.2.1).cell 3 rfl
 have o4:=(HB6.out.2.2.2.1).cell 4 rfl
 have o5:=(HB6.out.2.2.2.1).cell 5 rfl
 have o6:=(HB6.out.2.2.2.1).cell 6 rfl
 have o7:=(HB6.out.2.2.2.1).cell 7 rfl
 have o8:=(HB6.out.2.2.2.1).cell 8 rfl
 have o9:=(HB6.out.2.2.2.1).cell 9 rfl
 have o10:=(HB6.out.2.2.2.1).cell 10 rfl
 have lo:=(HB6.out.2.2.2.1).lt
 have x0:=(HB6.out.2.2.2.2.1).cell 0 rfl
 have x1:=(HB6.out.2.2.2.2.1).cell 1 rfl
 have lx:=(HB6.out.2.2.2.2.1).lt
 have m0:=(HB6.out.2.2.2.2.2.1).cell 0 rfl
 have m1:=(HB6.out.2.2.2.2.2.1).cell 1 rfl
 have m2:=(HB6.out.2.2.2.2.2.1).cell 2 rfl
 have m3:=(HB6.out.2.2.2.2.2.1).cell 3 rfl
 have lm:=(HB6.out.2.2.2.2.2.1).lt
 have n0:=(HB6.out.2.2.2.2.2.2).cell 0 rfl
 have n1:=(HB6.out.2.2.2.2.2.2).cell 1 rfl
 have n2:=(HB6.out.2.2.2.2.2.2).cell 2 rfl
 have n3:=(HB6.out.2.2.2.2.2.2).cell 3 rfl
 have ln:=(HB6.out.2.2.2.2.2.2).lt
 ((first | with_reducible refine wp_region_ext2 (by kernel_rfl) (by kernel_rfl) ?_ | refine wp_region_ext (by kernel_rfl) (by kernel_rfl) ?_);(repeat (go_big_quiet_step ((first | (go_at_call 22;with_reducible exact Gives.inRegion (A1.out _ (by repeat (first | with_reducible exact HB6.out.1 | with_reducible exact Up.refl _ | with_reducible apply Up.ext | with_reducible apply Up.alloc | with_reducible apply Up.drew | (with_reducible refine Up.setCell ?_ (by simp only;omega) _))))) | (go_at_call 22;with_reducible exact Gives.inRegion (A2.out _ (by repeat (first | with_reducible exact HB6.out.1 | with_reducible exact Up.refl _ | with_reducible apply Up.ext | with_reducible apply Up.alloc | with_reducible apply Up.drew | (with_reducible refine Up.setCell ?_ (by simp only;omega) _))))) | (go_at_call 20;with_reducible exact Gives.inRegion (xarea6_any _ _ _ _ _))))));refine wpQuiet_nil ?_;intro _ hw';obtain ⟨_,hw''⟩:=hw';subst hw'')
 refine forgetW (fun wr=>Up V wr ∧ Box wr q #[.slice a n c,.int .i64 0,.slice sa sn sc,.slice ca cn cc] 29 ∧ Box wr (q + 1) #[.int .i64 2,.int .i64 1,.int .i64 0,.int .i64 0,.int .i64 0,.int .i64 0,.int .i64 2,.int .i64 100,.int .i64 0,.int .i64 3,.bool true] 50 ∧ Box wr (q + 1 + 1) #[.int .i64 1,.int .i64 1,.int .i64 1,.int .i64 0,.int .i64 1,.int .i64 0,.int .i64 1000,.int .i64 1000,.int .i64 500000,.int .i64 1,.bool false] 50 ∧ Box wr g4 #[.int .i64 (99000),.int .i64 (101000)] 31 ∧ Box wr g8 #[.int .i64 (30),.int .i64 (33),.int .i64 (40),.int .i64 (44)] 61 ∧ Box wr (g8 + 1) #[.int .i64 (60),.int .i64 (61),.int .i64 (0),.int .i64 (0)] 61) ⟨(by repeat (first | with_reducible exact HB6.out.1 | with_reducible exact Up.refl _ | with_reducible apply Up.ext | with_reducible apply Up.alloc | with_reducible apply Up.drew | (with_reducible refine Up.setCell ?_ (by simp only;omega) _))),(by repeat (first | with_reducible exact HB6.out.2.1 | with_reducible apply Box.ext | with_reducible apply Box.alloc | with_reducible apply Box.drew | (with_reducible refine Box.other ?_ (by omega) _ _))),(by repeat (first | with_reducible exact HB6.out.2.2.1 | with_reducible apply Box.ext | with_reducible apply Box.alloc | with_reducible apply Box.drew | (with_reducible refine Box.other ?_ (by omega) _ _))),(by repeat (first | with_reducible exact HB6.out.2.2.2.1 | with_reducible apply Box.ext | with_reducible apply Box.alloc | with_reducible apply Box.drew | (with_reducible refine Box.other ?_ (by omega) _ _))),(by repeat (first | with_reducible exact HB6.out.2.2.2.2.1 | with_reducible apply Box.ext | with_reducible apply Box.alloc | with_reducible apply Box.drew | (with_reducible refine Box.other ?_ (by omega) _ _))),(by repeat (first | with_reducible exact HB6.out.2.2.2.2.2.1 | with_reducible apply Box.ext | with_reducible apply Box.alloc | with_reducible apply Box.drew | (with_reducible refine Box.other ?_ (by omega) _ _))),(by repeat (first | with_reducible exact HB6.out.2.2.2.2.2.2 | with_reducible apply Box.ext | with_reducible apply Box.alloc | with_reducible apply Box.drew | (with_reducible refine Box.other ?_ (by omega) _ _)))⟩ ?_
 clear HB6 s0 s1 s2 s3 ls r0 r1 r2 r3 r4 r5 r6 r7 r8 r9 r10 lr o0 o1 o2 o3 o4 o5 o6 o7 o8 o9 o10 lo x0 x1 lx m0 m1 m2 m3 lm n0 n1 n2 n3 ln
 rintro V7 ⟨hu,b0,b1,b2,b3,b4,b5⟩
 have HB7:=hide (And.intro hu (And.intro b0 (And.intro b1 (And.intro b2 (And.intro b3 (And.intro b4 b5))))))
 clear hu b0 b1 b2 b3 b4 b5
 have s0:=(HB7.out.2.1).cell 0 rfl
 have s1:=(HB7.out.2.1).cell 1 rfl
 have s2:=(HB7.out.2.1).cell 2 rfl
 have s3:=(HB7.out.2.1).cell 3 rfl
 have ls:=(HB7.out.2.1).lt
 have r0:=(HB7.out.2.2.1).cell 0 rfl
 have r1:=(HB7.out.2.2.1).cell 1 rfl
 have r2:=(HB7.out.2.2.1).cell 2 rfl
 have r3:=(HB7.out.2.2.1).cell 3 rfl
 have r4:=(HB7.out.2.2.1).cell 4 rfl
 have r5:=(HB7.out.2.2.1).cell 5 rfl
 have r6:=(HB7.out.2.2.1).cell 6 rfl
 have r7:=(HB7.out.2.2.1).cell 7 rfl
 have r8:=(HB7.out.2.2.1).cell 8 rfl
 have r9:=(HB7.out.2.2.1).cell 9 rfl
 have r10:=(HB7.out.2.2.1).cell 10 rfl
 have lr:=(HB7.out.2.2.1).lt
 have o0:=(HB7.out.2.2.2.1).cell 0 rfl
 have o1:=(HB7.out.2.2.2.1).cell 1 rfl
 have o2:=(HB7.out.2.2.2.1).cell 2 rfl
 have o3:=(HB7.out.2.2.2.1).cell 3 rfl
 have o4:=(HB7.out.2.2.2.1).cell 4 rfl
 have o5:=(HB7.out.2.2.2.1).cell 5 rfl
 have o6:=(HB7.out.2.2.2.1).cell 6 rfl
 have o7:=(HB7.out.2.2.2.1).cell 7 rfl
 have o8:=(HB7.out.2.2.2.1).cell 8 rfl
 have o9:=(HB7.out.2.2.2.1).cell 9 rfl
 have o10:=(HB7.out.2.2.2.1).cell 10 rfl
 have lo:=(HB7.out.2.2.2.1).lt
 have x0:=(HB7.out.2.2.2.2.1).cell 0 rfl
 have x1:=(HB7.out.2.2.2.2.1).cell 1 rfl
 have lx:=(HB7.out.2.2.2.2.1).lt
 have m0:=(HB7.out.2.2.2.2.2.1).cell 0 rfl
 have m1:=(HB7.out.2.2.2.2.2.1).cell 1 rfl
 have m2:=(HB7.out.2.2.2.2.2.1).cell 2 rfl
 have m3:=(HB7.out.2.2.2.2.2.1).cell 3 rfl
 have lm:=(HB7.out.2.2.2.2.2.1).lt
 have n0:=(HB7.out.2.2.2.2.2.2).cell 0 rfl
 have n1:=(HB7.out.2.2.2.2.2.2).cell 1 rfl
 have n2:=(HB7.out.2.2.2.2.2.2).cell 2 rfl
 have n3:=(HB7.out.2.2.2.2.2.2).cell 3 rfl
 have ln:=(HB7.out.2.2.2.2.2.2).lt
 go_wp2_with fail
 go_at_call 13
 obtain ⟨gB,hgB⟩:∃ g,g = V7.heap.size:=⟨_,rfl⟩
 try rw [← hgB]
 refine forgetK (fun wr=>Up V wr ∧ Box wr q #[.slice a n c,.int .i64 0,.slice sa sn sc,.slice ca cn cc] 29 ∧ Box wr (q + 1) #[.int .i64 2,.int .i64 1,.int .i64 0,.int .i64 0,.int .i64 0,.int .i64 0,.int .i64 2,.int .i64 100,.int .i64 0,.int .i64 3,.bool true] 50 ∧ Box wr (q + 1 + 1) #[.int .i64 1,.int .i64 1,.int .i64 1,.int .i64 0,.int .i64 1,.int .i64 0,.int .i64 1000,.int .i64 1000,.int .i64 500000,.int .i64 1,.bool false] 50 ∧ Box wr g4 #[.int .i64 (99000),.int .i64 (101000)] 31 ∧ Box wr g8 #[.int .i64 (30),.int .i64 (33),.int .i64 (40),.int .i64 (44)] 61 ∧ Box wr (g8 + 1) #[.int .i64 (60),.int .i64 (61),.int .i64 (0),.int .i64 (0)] 61 ∧ Box wr gB #[.int .i64 (30),.int .i64 (33),.int .i64 (40),.int .i64 (44),.int .i64 (0),.int .i64 (0),.int .i64 (0),.int .i64 (0),.int .i64 (60),.int .i64 (61),.int .i64 (0),.int .i64 (0),.int .i64 (0),.int .i64 (0),.int .i64 (0),.int .i64 (0)] 69 ∧ Box wr (gB + 1) #[.int .i64 2,.int .i64 1,.int .i64 0,.int .i64 0,.int .i64 0,.int .i64 0,.int .i64 2,.int .i64 100,.int .i64 0,.int .i64 3,.bool true] 50 ∧ Box wr (gB + 1 + 1) #[.int .i64 (0)] 3) ⟨(by repeat (first | with_reducible exact HB7.out.1 | with_reducible exact Up.refl _ | with_reducible apply Up.ext | with_reducible apply Up.alloc | with_reducible apply Up.drew | (with_reducible refine Up.setCell ?_ (by simp only;omega) _))),(by repeat (first | with_reducible exact HB7.out.2.1 | with_reducible apply Box.ext | with_reducible apply Box.alloc | with_reducible apply Box.drew | (with_reducible refine Box.other ?_ (by omega) _ _))),(by repeat (first | with_reducible exact HB7.out.2.2.1 | with_reducible apply Box.ext | with_reducible apply Box.alloc | with_reducible apply Box.drew | (with_reducible refine Box.other ?_ (by omega) _ _))),(by repeat (first | with_reducible exact HB7.out.2.2.2.1 | with_reducible apply Box.ext | with_reducible apply Box.alloc | with_reducible apply Box.drew | (with_reducible refine Box.other ?_ (by omega) _ _))),(by repeat (first | with_reducible exact HB7.out.2.2.2.2.1 | with_reducible apply Box.ext | with_reducible apply Box.alloc | with_reducible apply Box.drew | (with_reducible refine Box.other ?_ (by omega) _ _))),(by repeat (first | with_reducible exact HB7.out.2.2.2.2.2.1 | with_reducible apply Box.ext | with_reducible apply Box.alloc | with_reducible apply Box.drew | (with_reducible refine Box.other ?_ (by omega) _ _))),(by repeat (first | with_reducible exact HB7.out.2.2.2.2.2.2 | with_reducible apply Box.ext | with_reducible apply Box.alloc | with_reducible apply Box.drew | (with_reducible refine Box.other ?_ (by omega) _ _))),by rw [hgB];exact (by repeat (first | exact Box.mk rfl | (refine Box.mk ?_;simp;done) | apply Box.ext | apply Box.drew | apply Box.alloc | apply Box.two1 | (refine Box.other ?_ (by omega) _ _))),by rw [hgB];exact (by repeat (first | exact Box.mk rfl | (refine Box.mk ?_;simp;done) | apply Box.ext | apply Box.drew | apply Box.alloc | apply Box.two1 | (refine Box.other ?_ (by omega) _ _))),by rw [hgB];exact (by repeat (first | exact Box.mk rfl | (refine Box.mk ?_;simp;done) | apply Box.ext | apply Box.drew | apply Box.alloc | apply Box.two1 | (refine Box.other ?_ (by omega) _ _)))⟩ ?_
 clear HB7 s0 s1 s2 s3 ls r0 r1 r2 r3 r4 r5 r6 r7 r8 r9 r10 lr o0 o1 o2 o3 o4 o5 o6 o7 o8 o9 o10 lo x0 x1 lx m0 m1 m2 m3 lm n0 n1 n2 n3 ln
 clear hgB
 rintro V8 ⟨hu,b0,b1,b2,b3,b4,b5,b6,b7,b8⟩
 have HB8:=hide (And.intro hu (And.intro b0 (And.intro b1 (And.intro b2 (And.intro b3 (And.intro b4 (And.intro b5 (And.intro b6 (And.intro b7 b8)))))))))
 clear hu b0 b1 b2 b3 b4 b5 b6 b7 b8
 have s0:=(HB8.out.2.1).cell 0 rfl
 have s1:=(HB8.out.2.1).cell 1 rfl
 have s2:=(HB8.out.2.1).cell 2 rfl
 have s3:=(HB8.out.2.1).cell 3 rfl
 have ls:=(HB8.out.2.1).lt
 have r0:=(HB8.out.2.2.1).cell 0 rfl
 have r1:=(HB8.out.2.2.1).cell 1 rfl
 have r2:=(HB8.out.2.2.1).cell 2 rfl
 have r3:=(HB8.out.2.2.1).cell 3 rfl
 have r4:=(HB8.out.2.2.1).cell 4 rfl
 have r5:=(HB8.out.2.2.1).cell 5 rfl
 have r6:=(HB8.out.2.2.1).cell 6 rfl
 have r7:=(HB8.out.2.2.1).cell 7 rfl
 have r8:=(HB8.out.2.2.1).cell 8 rfl
 have r9:=(HB8.out.2.2.1).cell 9 rfl
 have r10:=(HB8.out.2.2.1).cell 10 rfl
 have lr:=(HB8.out.2.2.1).lt
 have o0:=(HB8.out.2.2.2.1).cell 0 rfl
 have o1:=(HB8.out.2.2.2.1).cell 1 rfl
 have o2:=(HB8.out.2.2.2.1).cell 2 rfl
 have o3:=(HB8.out.2.2.2.1).cell 3 rfl
 have o4:=(HB8.out.2.2.2.1).cell 4 rfl
 have o5:=(HB8.out.2.2.2.1).cell 5 rfl
 have o6:=(HB8.out.2.2.2.1).cell 6 rfl
 have o7:=(HB8.out.2.2.2.1).cell 7 rfl
 have o8:=(HB8.out.2.2.2.1).cell 8 rfl
 have o9:=(HB8.out.2.2.2.1).cell 9 rfl
 have o10:=(HB8.out.2.2.2.1).cell 10 rfl
 have lo:=(HB8.out.2.2.2.1).lt
 have x0:=(HB8.out.2.2.2.2.1).cell 0 rfl
 have x1:=(HB8.out.2.2.2.2.1).cell 1 rfl
 have lx:=(HB8.out.2.2.2.2.1).lt
 have m0:=(HB8.out.2.2.2.2.2.1).cell 0 rfl
 have m1:=(HB8.out.2.2.2.2.2.1).cell 1 rfl
 have m2:=(HB8.out.2.2.2.2.2.1).cell 2 rfl
 have m3:=(HB8.out.2.2.2.2.2.1).cell 3 rfl
 have lm:=(HB8.out.2.2.2.2.2.1).lt
 have n0:=(HB8.out.2.2.2.2.2.2.1).cell 0 rfl
 have n1:=(HB8.out.2.2.2.2.2.2.1).cell 1 rfl
 have n2:=(HB8.out.2.2.2.2.2.2.1).cell 2 rfl
 have n3:=(HB8.out.2.2.2.2.2.2.1).cell 3 rfl
 have ln:=(HB8.out.2.2.2.2.2.2.1).lt
 have lbb:=(HB8.out.2.2.2.2.2.2.2.1).lt
 have lbo:=(HB8.out.2.2.2.2.2.2.2.2.1).lt
 have lbi:=(HB8.out.2.2.2.2.2.2.2.2.2).lt
 refine (W1.out _ (by repeat (first | with_reducible exact HB8.out.1 | with_reducible exact Up.refl _ | with_reducible apply Up.ext | with_reducible apply Up.alloc | with_reducible apply Up.drew | (with_reducible refine Up.setCell ?_ (by simp only;omega) _))) _ _ _ (HB8.out.2.2.2.2.2.2.2.1) (HB8.out.2.2.2.2.2.2.2.2.1) (HB8.out.2.2.2.2.2.2.2.2.2)).mono ?_
 intro p9
 go_wp2_with fail
 go_at_call 13
 obtain ⟨gO,hgO⟩:∃ g,g = V8.heap.size + p9.os.size:=⟨_,rfl⟩
 try rw [← hgO]
 refine forgetK (fun wr=>Up V wr ∧ Box wr q #[.slice a n c,.int .i64 0,.slice sa sn sc,.slice ca cn cc] 29 ∧ Box wr (q + 1) #[.int .i64 2,.int .i64 1,.int .i64 0,.int .i64 0,.int .i64 0,.int .i64 0,.int .i64 2,.int .i64 100,.int .i64 0,.int .i64 3,.bool true] 50 ∧ Box wr (q + 1 + 1) #[.int .i64 1,.int .i64 1,.int .i64 1,.int .i64 0,.int .i64 1,.int .i64 0,.int .i64 1000,.int .i64 1000,.int .i64 500000,.int .i64 1,.bool false] 50 ∧ Box wr g4 #[.int .i64 (99000),.int .i64 (101000)] 31 ∧ Box wr g8 #[.int .i64 (30),.int .i64 (33),.int .i64 (40),.int .i64 (44)] 61 ∧ Box wr (g8 + 1) #[.int .i64 (60),.int .i64 (61),.int .i64 (0),.int .i64 (0)] 61 ∧ Box wr gB #[.int .i64 (30),.int .i64 (33),.int .i64 (40),.int .i64 (44),.int .i64 (0),.int .i64 (0),.int .i64 (0),.int .i64 (0),.int .i64 (60),.int .i64 (61),.int .i64 (0),.int .i64 (0),.int .i64 (0),.int .i64 (0),.int .i64 (0),.int .i64 (0)] 69 ∧ Box wr (gB + 1) #[.int .i64 2,.int .i64 1,.int .i64 0,.int .i64 0,.int .i64 0,.int .i64 0,.int .i64 2,.int .i64 100,.int .i64 0,.int .i64 3,.bool true] 50 ∧ Box wr (gB + 1 + 1) #[.int .i64 (0)] 3 ∧ Box wr gO #[.int .i64 2,.int .i64 1,.int .i64 0,.int .i64 0,.int .i64 0,.int .i64 0,.int .i64 2,.int .i64 100,.int .i64 0,.int .i64 3,.bool true] 50) ⟨(by repeat (first | with_reducible exact HB8.out.1 | with_reducible exact Up.refl _ | with_reducible apply Up.ext | with_reducible apply Up.alloc | with_reducible apply Up.drew | (with_reducible refine Up.setCell ?_ (by simp only;omega) _))),(by repeat (first | with_reducible exact HB8.out.2.1 | with_reducible apply Box.ext | with_reducible apply Box.alloc | with_reducible apply Box.drew | (with_reducible refine Box.other ?_ (by omega) _ _))),(by repeat (first | with_reducible exact HB8.out.2.2.1 | with_reducible apply Box.ext | with_reducible apply Box.alloc | with_reducible apply Box.drew | (with_reducible refine Box.other ?_ (by omega) _ _))),(by repeat (first | with_reducible exact HB8.out.2.2.2.1 | with_reducible apply Box.ext | with_reducible apply Box.alloc | with_reducible apply Box.drew | (with_reducible refine Box.other ?_ (by omega) _ _))),(by repeat (first | with_reducible exact HB8.out.2.2.2.2.1 | with_reducible apply Box.ext | with_reducible apply Box.alloc | with_reducible apply Box.drew | (with_reducible refine Box.other ?_ (by omega) _ _))),(by repeat (first | with_reducible exact HB8.out.2.2.2.2.2.1 | with_reducible apply Box.ext | with_reducible apply Box.alloc | with_reducible apply Box.drew | (with_reducible refine Box.other ?_ (by omega) _ _))),(by repeat (first | with_reducible exact HB8.out.2.2.2.2.2.2.1 | with_reducible apply Box.ext | with_reducible apply Box.alloc | with_reducible apply Box.drew | (with_reducible refine Box.other ?_ (by omega) _ _))),(by repeat (first | with_reducible exact HB8.out.2.2.2.2.2.2.2.1 | with_reducible apply Box.ext | with_reducible apply Box.alloc | with_reducible apply Box.drew | (with_reducible refine Box.other ?_ (by omega) _ _))),(by repeat (first | with_reducible exact HB8.out.2.2.2.2.2.2.2.2.1 | with_reducible apply Box.ext | with_reducible apply Box.alloc | with_reducible apply Box.drew | (with_reducible refine Box.other ?_ (by omega) _ _))),(by repeat (first | with_reducible exact HB8.out.2.2.2.2.2.2.2.2.2 | with_reducible apply Box.ext | with_reducible apply Box.alloc | with_reducible apply Box.drew | (with_reducible refine Box.other ?_ (by omega) _ _))),by rw [hgO];exact Box.mk (ext_size _ _)⟩ ?_
 clear HB8 s0 s1 s2 s3 ls r0 r1 r2 r3 r4 r5 r6 r7 r8 r9 r10 lr o0 o1 o2 o3 o4 o5 o6 o7 o8 o9 o10 lo x0 x1 lx m0 m1 m2 m3 lm n0 n1 n2 n3 ln lbb lbo lbi
 clear hgO
 rintro V9 ⟨hu,b0,b1,b2,b3,b4,b5,b6,b7,b8,b9⟩
 have HB9:=hide (And.intro hu (And.intro b0 (And.intro b1 (And.intro b2 (And.intro b3 (And.intro b4 (And.intro b5 (And.intro b6 (And.intro b7 (And.intro b8 b9))))))))))
 clear hu b0 b1 b2 b3 b4 b5 b6 b7 b8 b9
 have s0:=(HB9.out.2.1).cell 0 rfl
 have s1:=(HB9.out.2.1).cell 1 rfl
 have s2:=(HB9.out.2.1).cell 2 rfl
 have s3:=(HB9.out.2.1).cell 3 rfl
 have ls:=(HB9.out.2.1).lt
 have r0:=(HB9.out.2.2.1).cell 0 rfl
 have r1:=(HB9.out.2.2.1).cell 1 rfl
 have r2:=(HB9.out.2.2.1).cell 2 rfl
 have r3:=(HB9.out.2.2.1).cell 3 rfl
 have r4:=(HB9.out.2.2.1).cell 4 rfl
 have r5:=(HB9.out.2.2.1).cell 5 rfl
 have r6:=(HB9.out.2.2.1).cell 6 rfl
 have r7:=(HB9.out.2.2.1).cell 7 rfl
 have r8:=(HB9.out.2.2.1).cell 8 rfl
 have r9:=(HB9.out.2.2.1).cell 9 rfl
 have r10:=(HB9.out.2.2.1).cell 10 rfl
 have lr:=(HB9.out.2.2.1).lt
 have o0:=(HB9.out.2.2.2.1).cell 0 rfl
 have o1:=(HB9.out.2.2.2.1).cell 1 rfl
 have o2:=(HB9.out.2.2.2.1).cell 2 rfl
 have o3:=(HB9.out.2.2.2.1).cell 3 rfl
 have o4:=(HB9.out.2.2.2.1).cell 4 rfl
 have o5:=(HB9.out.2.2.2.1).cell 5 rfl
 have o6:=(HB9.out.2.2.2.1).cell 6 rfl
 have o7:=(HB9.out.2.2.2.1).cell 7 rfl
 have o8:=(HB9.out.2.2.2.1).cell 8 rfl
 have o9:=(HB9.out.2.2.2.1).cell 9 rfl
 have o10:=(HB9.out.2.2.2.1).cell 10 rfl
 have lo:=(HB9.out.2.2.2.1).lt
 have x0:=(HB9.out.2.2.2.2.1).cell 0 rfl
 have x1:=(HB9.out.2.2.2.2.1).cell 1 rfl
 have lx:=(HB9.out.2.2.2.2.1).lt
 have m0:=(HB9.out.2.2.2.2.2.1).cell 0 rfl
 have m1:=(HB9.out.2.2.2.2.2.1).cell 1 rfl
 have m2:=(HB9.out.2.2.2.2.2.1).cell 2 rfl
 have m3:=(HB9.out.2.2.2.2.2.1).cell 3 rfl
 have lm:=(HB9.out.2.2.2.2.2.1).lt
 have n0:=(HB9.out.2.2.2.2.2.2.1).cell 0 rfl
 have n1:=(HB9.out.2.2.2.2.2.2.1).cell 1 rfl
 have n2:=(HB9.out.2.2.2.2.2.2.1).cell 2 rfl
 have n3:=(HB9.out.2.2.2.2.2.2.1).cell 3 rfl
 have ln:=(HB9.out.2.2.2.2.2.2.1).lt
 have lbb:=(HB9.out.2.2.2.2.2.2.2.1).lt
 have lbo:=(HB9.out.2.2.2.2.2.2.2.2.1).lt
 have lbi:=(HB9.out.2.2.2.2.2.2.2.2.2.1).lt
 have lbp:=(HB9.out.2.2.2.2.2.2.2.2.2.2).lt
 refine (W2.out _ (by repeat (first | with_reducible exact HB9.out.1 | with_reducible exact Up.refl _ | with_reducible apply Up.ext | with_reducible apply Up.alloc | with_reducible apply Up.drew | (with_reducible refine Up.setCell ?_ (by simp only;omega) _))) _ _ (HB9.out.2.2.2.2.2.2.2.1) (HB9.out.2.2.2.2.2.2.2.2.2.2)).mono ?_
 intro p10
 go_wp2_with (go_at_call 11;(with_reducible refine (HA.out _).mono ?_);intro _)
 go_ret
 exact ⟨rfl,HU.out.trans (by repeat (first | with_reducible exact HB9.out.1 | with_reducible exact Up.refl _ | with_reducible apply Up.ext | with_reducible apply Up.alloc | with_reducible apply Up.drew | (with_reducible refine Up.setCell ?_ (by simp only;omega) _)))⟩
end Go.Proofs.YteafglginnonnaaGreat
