/- Several texts in one. -/
import Derived.Test.YteafglginnonnaaGreatRootR
import Derived.Test.YteafglginnonnaaGreatWst
import Derived.Test.YteafglginnonnaaGreatWmo
import Derived.Test.YteafglginnonnaaGreatW6b
import Derived.Test.YteafglginnonnaaGreatVO
/- Package orbit: Holds; bolidekit.HasInt. Conditions: what lies in memory. -/
set_option linter.unusedVariables false
set_option linter.unusedSimpArgs false
namespace Go.Proofs.YteafglginnonnaaGreat
set_option maxHeartbeats 20000000
set_option maxRecDepth 100000
open Go.RowKit Go.Shelf
theorem hasint_any {w:World} {K:Nat→Prop} {a:Option Addr} {n c:Nat} {l:List Int} (hl:Lst TInt K w (.slice a n c) l) (x:Int) :
 Gives Tryz.prog 33 #[.slice a n c,.int .i64 x] w (.bool (l.contains x)):=by
 have hn:=(Ints.at hl).1
 have hm:=(Ints.at hl).2.1
 have HF:=hide hl
 have HN:=hide hn
 clear hl hn
 (unfold Gives;go_enter Tryz.func33,Tryz.ntmps33)
 go_wp2
 go_loopw [5] (fun s5 wr=>∃ k:Nat,k≤n∧s5=.int .i64 k∧Up w wr∧Hid (∀ y∈l.take k,y≠x)) (fun s5 _=>n - (intOf s5).toNat)
 case atStart=>exact ⟨0,by omega,rfl,Up.refl _,hide (by simp)⟩
 case round =>
  obtain ⟨k,hk,rfl,hu,hb⟩:=hrel
  have HU:=hide hu
  by_cases hlt:k<n
  · obtain ⟨b,o,p,rfl,hKb,hbw,hp,hc0⟩:=(Ints.at (HF.out.keeps (hu.keeps K))).2.2 k hlt
    have hkb:decide ((k:Int)<n)=true:=by simp;omega
    have hkn:decide (k<n)=true:=decide_eq_true hlt
    have HP:=hide hp
    clear hp hu hKb
    by_cases h1:p=x
    · subst h1
      have HR:=hide (show l.contains p=true by rw [List.contains_iff_mem];exact List.mem_of_getElem? HP.out)
      go_wp2
      go_ret
      exact ⟨by rw [HR.out];rfl,HU.out⟩
    · have d1:(p==x)=false:=by simpa using h1
      have HB:=hide (show ∀ y∈l.take (k+1),y≠x by
       intro y hy
       rw [List.take_add_one,HP.out] at hy
       rcases List.mem_append.1 hy with h | h
       · exact hb.out y h
       · simp at h;subst h;exact h1)
      clear h1
      go_wp2
      refine ⟨⟨k+1,by omega,by go_num,HU.out,HB⟩,by simp [intOf];omega⟩
  · have hkb:decide ((k:Int)<n)=false:=by simp;omega
    have hkn:decide (k<n)=false:=by simp;omega
    obtain rfl:k=n:=by omega
    have HR:=hide (show l.contains x=false by
     rw [Bool.eq_false_iff]
     intro h
     rw [List.contains_iff_mem] at h
     have h2:=hb.out x (by rw [HN.out,List.take_length];exact h)
     exact h2 rfl)
    go_wp2
    go_ret
    exact ⟨by rw [HR.out];rfl,hu⟩
theorem oholds_any (b:BoxD) (s:StD) (w:World):Gives Tryz.prog 32 #[.agg (boxA b),.agg #[.int .i64 (s.1),.int .i64 (s.2.1),.int .i64 (s.2.2.1),.int .i64 (s.2.2.2)]] w (.bool (holdsB b s)):=by
 obtain ⟨x0,x1,y0,y1,u0,u1,v0,v1⟩:=b
 obtain ⟨sx,sy,su,sv⟩:=s
 have HO:=hide (fun W=>oof_any x0 x1 y0 y1 u0 u1 v0 v1 W)
 have H1:=hide (fun W=>owithin_any sx x0 x1 W)
 have H2:=hide (fun W=>owithin_any sy y0 y1 W)
 have H3:=hide (fun W=>owithin_any su u0 u1 W)
 have H4:=hide (fun W=>owithin_any sv v0 v1 W)
 unfold holdsB boxA
 dsimp only
 obtain ⟨B1,h1⟩:∃ B,B=withinB sx x0 x1:=⟨_,rfl⟩
 obtain ⟨B2,h2⟩:∃ B,B=withinB sy y0 y1:=⟨_,rfl⟩
 obtain ⟨B3,h3⟩:∃ B,B=withinB su u0 u1:=⟨_,rfl⟩
 obtain ⟨B4,h4⟩:∃ B,B=withinB sv v0 v1:=⟨_,rfl⟩
 rw [← h1] at H1
 rw [← h2] at H2
 rw [← h3] at H3
 rw [← h4] at H4
 rw [← h1,← h2,← h3,← h4]
 clear h1 h2 h3 h4
 (unfold Gives;go_enter Tryz.func32,Tryz.ntmps32)
 go_wp2_with fail
 go_at_call 75
 refine forgetK (fun U=>Up w U∧Box U (w.heap.size+1+1) #[.int .i64 (sx),.int .i64 (sy),.int .i64 (su),.int .i64 (sv)] 147) ⟨Up.go,Box.go⟩ ?_
 rintro U0 ⟨hu0,hb0⟩
 have G0:=hide (And.intro hu0 hb0)
 clear hu0 hb0
 refine (HO.out _).mono ?_
 intro p0
 go_wp2_with fail
 refine wp_loop_rounds 5 ?_
 rw [rounds_succ]
 go_wp2_with fail
 obtain ⟨q0,hq0⟩:∃ b,b=U0.heap.size+p0.os.size:=⟨_,rfl⟩
 try rw [← hq0]
 refine forgetW (fun U=>Up w U∧Box U (w.heap.size+1+1) #[.int .i64 (sx),.int .i64 (sy),.int .i64 (su),.int .i64 (sv)] 147∧Box U q0 #[.int .i64 (x0),.int .i64 (x1)] 31) ⟨G0.out.1.trans Up.go,G0.out.2.up Up.go,by rw [hq0];exact Box.mk (ext_size _ _)⟩ ?_
 clear G0 hq0
 rintro W0 ⟨hu,hb,hs⟩
 obtain ⟨a0,a1,a2,a3⟩:=(hb).c4
 have la:=(hb).lt
 obtain ⟨s0,s1⟩:=hs.c2
 have ls:=hs.lt
 have E0:=hide (And.intro hu hb)
 clear hu hb hs
 rcases B1 with _ | _
 · ((first | with_reducible refine wp_region_ext2 (by kernel_rfl) (by kernel_rfl) ?_ | refine wp_region_ext (by kernel_rfl) (by kernel_rfl) ?_);(repeat (go_big_quiet_step ((go_at_call 66;with_reducible exact Gives.inRegion (H1.out _)))));refine wpQuiet_nil ?_;intro _ hw';obtain ⟨_,hw''⟩:=hw';subst hw'')
   go_wp2_with fail
   go_ret
   exact ⟨rfl,E0.out.1.trans Up.go⟩
 ((first | with_reducible refine wp_region_ext2 (by kernel_rfl) (by kernel_rfl) ?_ | refine wp_region_ext (by kernel_rfl) (by kernel_rfl) ?_);(repeat (go_big_quiet_step ((go_at_call 66;with_reducible exact Gives.inRegion (H1.out _)))));refine wpQuiet_nil ?_;intro _ hw';obtain ⟨_,hw''⟩:=hw';subst hw'')
 go_wp2_with fail
 refine forgetW (fun U=>Up w U∧Box U (w.heap.size+1+1) #[.int .i64 (sx),.int .i64 (sy),.int .i64 (su),.int .i64 (sv)] 147) ⟨E0.out.1.trans Up.go,E0.out.2.up Up.go⟩ ?_
 clear E0 a0 a1 a2 a3 la s0 s1 ls
 rintro V0 hG
 have G1:=hide hG
 clear hG
 rw [rounds_succ]
 go_wp2_with fail
 obtain ⟨q1,hq1⟩:∃ b,b=V0.heap.size:=⟨_,rfl⟩
 try rw [← hq1]
 refine forgetW (fun U=>Up w U∧Box U (w.heap.size+1+1) #[.int .i64 (sx),.int .i64 (sy),.int .i64 (su),.int .i64 (sv)] 147∧Box U q1 #[.int .i64 (y0),.int .i64 (y1)] 31) ⟨G1.out.1.trans Up.go,G1.out.2.up Up.go,by rw [hq1];exact Box.go⟩ ?_
 clear G1 hq1
 rintro W1 ⟨hu,hb,hs⟩
 obtain ⟨a0,a1,a2,a3⟩:=(hb).c4
 have la:=(hb).lt
 obtain ⟨s0,s1⟩:=hs.c2
 have ls:=hs.lt
 have E1:=hide (And.intro hu hb)
 clear hu hb hs
 rcases B2 with _ | _
 · ((first | with_reducible refine wp_region_ext2 (by kernel_rfl) (by kernel_rfl) ?_ | refine wp_region_ext (by kernel_rfl) (by kernel_rfl) ?_);(repeat (go_big_quiet_step ((go_at_call 66;with_reducible exact Gives.inRegion (H2.out _)))));refine wpQuiet_nil ?_;intro _ hw';obtain ⟨_,hw''⟩:=hw';subst hw'')
   go_wp2_with fail
   go_ret
   exact ⟨rfl,E1.out.1.trans Up.go⟩
 ((first | with_reducible refine wp_region_ext2 (by kernel_rfl) (by kernel_rfl) ?_ | refine wp_region_ext (by kernel_rfl) (by kernel_rfl) ?_);(repeat (go_big_quiet_step ((go_at_call 66;with_reducible exact Gives.inRegion (H2.out _)))));refine wpQuiet_nil ?_;intro _ hw';obtain ⟨_,hw''⟩:=hw';subst hw'')
 go_wp2_with fail
 refine forgetW (fun U=>Up w U∧Box U (w.heap.size+1+1) #[.int .i64 (sx),.int .i64 (sy),.int .i64 (su),.int .i64 (sv)] 147) ⟨E1.out.1.trans Up.go,E1.out.2.up Up.go⟩ ?_
 clear E1 a0 a1 a2 a3 la s0 s1 ls
 rintro V1 hG
 have G2:=hide hG
 clear hG
 rw [rounds_succ]
 go_wp2_with fail
 obtain ⟨q2,hq2⟩:∃ b,b=V1.heap.size:=⟨_,rfl⟩
 try rw [← hq2]
 refine forgetW (fun U=>Up w U∧Box U (w.heap.size+1+1) #[.int .i64 (sx),.int .i64 (sy),.int .i64 (su),.int .i64 (sv)] 147∧Box U q2 #[.int .i64 (u0),.int .i64 (u1)] 31) ⟨G2.out.1.trans Up.go,G2.out.2.up Up.go,by rw [hq2];exact Box.go⟩ ?_
 clear G2 hq2
 rintro W2 ⟨hu,hb,hs⟩
 obtain ⟨a0,a1,a2,a3⟩:=(hb).c4
 have la:=(hb).lt
 obtain ⟨s0,s1⟩:=hs.c2
 have ls:=hs.lt
 have E2:=hide (And.intro hu hb)
 clear hu hb hs
 rcases B3 with _ | _
 · ((first | with_reducible refine wp_region_ext2 (by kernel_rfl) (by kernel_rfl) ?_ | refine wp_region_ext (by kernel_rfl) (by kernel_rfl) ?_);(repeat (go_big_quiet_step ((go_at_call 66;with_reducible exact Gives.inRegion (H3.out _)))));refine wpQuiet_nil ?_;intro _ hw';obtain ⟨_,hw''⟩:=hw';subst hw'')
   go_wp2_with fail
   go_ret
   exact ⟨rfl,E2.out.1.trans Up.go⟩
 ((first | with_reducible refine wp_region_ext2 (by kernel_rfl) (by kernel_rfl) ?_ | refine wp_region_ext (by kernel_rfl) (by kernel_rfl) ?_);(repeat (go_big_quiet_step ((go_at_call 66;with_reducible exact Gives.inRegion (H3.out _)))));refine wpQuiet_nil ?_;intro _ hw';obtain ⟨_,hw''⟩:=hw';subst hw'')
 go_wp2_with fail
 refine forgetW (fun U=>Up w U∧Box U (w.heap.size+1+1) #[.int .i64 (sx),.int .i64 (sy),.int .i64 (su),.int .i64 (sv)] 147) ⟨E2.out.1.trans Up.go,E2.out.2.up Up.go⟩ ?_
 clear E2 a0 a1 a2 a3 la s0 s1 ls
 rintro V2 hG
 have G3:=hide hG
 clear hG
 rw [rounds_succ]
 go_wp2_with fail
 obtain ⟨q3,hq3⟩:∃ b,b=V2.heap.size:=⟨_,rfl⟩
 try rw [← hq3]
 refine forgetW (fun U=>Up w U∧Box U (w.heap.size+1+1) #[.int .i64 (sx),.int .i64 (sy),.int .i64 (su),.int .i64 (sv)] 147∧Box U q3 #[.int .i64 (v0),.int .i64 (v1)] 31) ⟨G3.out.1.trans Up.go,G3.out.2.up Up.go,by rw [hq3];exact Box.go⟩ ?_
 clear G3 hq3
 rintro W3 ⟨hu,hb,hs⟩
 obtain ⟨a0,a1,a2,a3⟩:=(hb).c4
 have la:=(hb).lt
 obtain ⟨s0,s1⟩:=hs.c2
 have ls:=hs.lt
 have E3:=hide (And.intro hu hb)
 clear hu hb hs
 rcases B4 with _ | _
 · ((first | with_reducible refine wp_region_ext2 (by kernel_rfl) (by kernel_rfl) ?_ | refine wp_region_ext (by kernel_rfl) (by kernel_rfl) ?_);(repeat (go_big_quiet_step ((go_at_call 66;with_reducible exact Gives.inRegion (H4.out _)))));refine wpQuiet_nil ?_;intro _ hw';obtain ⟨_,hw''⟩:=hw';subst hw'')
   go_wp2_with fail
   go_ret
   exact ⟨rfl,E3.out.1.trans Up.go⟩
 ((first | with_reducible refine wp_region_ext2 (by kernel_rfl) (by kernel_rfl) ?_ | refine wp_region_ext (by kernel_rfl) (by kernel_rfl) ?_);(repeat (go_big_quiet_step ((go_at_call 66;with_reducible exact Gives.inRegion (H4.out _)))));refine wpQuiet_nil ?_;intro _ hw';obtain ⟨_,hw''⟩:=hw';subst hw'')
 go_wp2_with fail
 rw [rounds_succ]
 go_wp2_with fail
 go_ret
 exact ⟨rfl,E3.out.1.trans Up.go⟩
theorem wWorst_any (HD:DelC) {K:Nat→Prop} {w:World} {a sa ca:Option Addr} {n c sn sc cn cc:Nat} {s:SkyD} (hL:SkyL K w a n c sa sn sc ca cn cc s) (d:DriftD) (t:Int) {KB:Nat→Prop} {ba:Option Addr} {bn bc:Nat} {set:List BoxD} (hB:Boxes KB w (.slice ba bn bc) set) {KO:Nat→Prop} {oa:Option Addr} {on oc:Nat} {offers:List OffD} (hO:Lst TOff KO w (.slice oa on oc) offers) {KI:Nat→Prop} {ia:Option Addr} {inn ic:Nat} {ch:List Int} (hI:Lst TInt KI w (.slice ia inn ic) ch) (f:Int):Gives Tryz.prog 13 #[.agg #[.slice a n c,.int .i64 s.home,.slice sa sn sc,.slice ca cn cc],.agg #[.int .i64 (d.l.1),.int .i64 (d.l.2),.int .i64 (d.h.1),.int .i64 (d.h.2),.int .i64 (d.g)],.int .i64 t,.slice ba bn bc,.slice oa on oc,.slice ia inn ic,.int .i64 f] w (.tuple #[.int .i64 (worstV s d t set offers ch f).1,.int .i64 (worstV s d t set offers ch f).2]):=by
 have HC:=hide (fun W (hu:Up w W)=>wwatch_any (hL.up hu) d t (hB.keeps (hu.keeps KB)) (hO.up hu))
 have HI:=hide (fun W=>wwithin_any f 0 3 W)
 have hon:=(Offs.at hO).1
 have hbn:=(Boxes.at hB).1
 have HK:=hide (fun (h:watchE s d t set offers=0) W (hu:Up w W)=>wchk_any (oa:=oa) (oc:=oc) (on:=on) (by have:=(watchE_zero h).2.2.1;omega) (hI.up hu))
 have HP:=hide (fun (h:watchE s d t set offers=0) W (hu:Up w W)=>plan_any (hL.up hu) d t (hB.keeps (hu.keeps KB)) (hO.up hu) h)
 have HW:=hide (fun (h:withinB f 0 3=true) (h':chE on ch=0) (h'':watchE s d t set offers=0) (W:World) (hu:Up w W) (PB MB:Nat) (hp:PlanT W PB MB oa on oc bn (tabV s d t set offers)) =>
  show Gives Tryz.prog 48 #[.pointer (some ⟨PB,0,none⟩),.slice ia inn ic,.int .i64 f] W (.int .i64 (worstT (tabV s d t set offers) (sureO offers) bn f.toNat ch)) by
   have hf:0≤f∧f≤3:=by simpa [withinB] using h
   obtain ⟨f,rfl⟩:=Int.eq_ofNat_of_zero_le hf.1
   have:=(watchE_zero h'').2.2.1
   have h3:=chE_zero h'
   exact wworst_any HD f (by omega) hp (hO.up hu) (hI.up hu) h3.1 (by omega))
 unfold worstV
 rw [← hbn,← hon]
 have HE:=hide (chE_two on ch)
 generalize worstT (tabV s d t set offers) (sureO offers) bn f.toNat ch=R at *
 generalize tabV s d t set offers=TV at *
 generalize watchE s d t set offers=E at *
 generalize chE on ch=CE at *
 generalize hIn:withinB f 0 3=IN at *
 generalize s.home=home at *
 clear hL hB hO hI hon hbn hIn
 by_cases h0:E=0
 rotate_left
 · rw [if_neg h0]
   have heb:(E != 0)=true:=by simpa using h0
   clear h0 HP HK HW
   (unfold Gives;go_enter Tryz.func13,Tryz.ntmps13)
   go_wp2_with fail
   go_at_call 10
   refine forgetK (fun wr=>Up w wr∧Box wr w.heap.size #[.slice a n c,.int .i64 home,.slice sa sn sc,.slice ca cn cc] 29∧Box wr (w.heap.size+1) #[.int .i64 (d.l.1),.int .i64 (d.l.2),.int .i64 (d.h.1),.int .i64 (d.h.2),.int .i64 (d.g)] 33) ⟨Up.go,Box.go,Box.go⟩ ?_
   rintro V0 ⟨hu,b0,b1⟩
   have HB0:=hide (And.intro hu (And.intro b0 b1))
   clear hu b0 b1
   obtain ⟨s0,s1,s2,s3⟩:=(HB0.out.2.1).c4
   have ls:=(HB0.out.2.1).lt
   obtain ⟨dd0,dd1,dd2,dd3,dd4⟩:=(HB0.out.2.2).c5
   have ldd:=(HB0.out.2.2).lt
   refine (HC.out _ (Up.viz HB0.out.1)).mono ?_
   intro p1
   go_wp2
   refine bodyPost_give (Up.viz HB0.out.1) rfl ⟨_,(by simp [results,Tryz.results13,go_sem];rfl),?_⟩
   rfl
 rw [if_pos h0]
 subst h0
 rcases IN with _ | _
 · rw [if_neg (by decide)]
   clear HP HK HW
   (unfold Gives;go_enter Tryz.func13,Tryz.ntmps13)
   go_wp2_with fail
   go_at_call 10
   refine forgetK (fun wr=>Up w wr∧Box wr w.heap.size #[.slice a n c,.int .i64 home,.slice sa sn sc,.slice ca cn cc] 29∧Box wr (w.heap.size+1) #[.int .i64 (d.l.1),.int .i64 (d.l.2),.int .i64 (d.h.1),.int .i64 (d.h.2),.int .i64 (d.g)] 33) ⟨Up.go,Box.go,Box.go⟩ ?_
   rintro V0 ⟨hu,b0,b1⟩
   have HB0:=hide (And.intro hu (And.intro b0 b1))
   clear hu b0 b1
   obtain ⟨s0,s1,s2,s3⟩:=(HB0.out.2.1).c4
   have ls:=(HB0.out.2.1).lt
   obtain ⟨dd0,dd1,dd2,dd3,dd4⟩:=(HB0.out.2.2).c5
   have ldd:=(HB0.out.2.2).lt
   refine (HC.out _ (Up.viz HB0.out.1)).mono ?_
   intro p1
   go_wp2_with (go_at_call 45;refine (HI.out _).mono ?_;intro _)
   refine bodyPost_give (Up.viz HB0.out.1) rfl ⟨_,(by simp [results,Tryz.results13,go_sem];rfl),?_⟩
   rfl
 rw [if_pos rfl]
 have HK2:=hide (HK.out rfl)
 clear HK
 by_cases h1:CE=0
 rotate_left
 · rw [if_neg h1]
   obtain rfl:CE=7:=by rcases HE.out with h | h;exact absurd h h1;exact h
   clear HP HW h1
   (unfold Gives;go_enter Tryz.func13,Tryz.ntmps13)
   go_wp2_with fail
   go_at_call 10
   refine forgetK (fun wr=>Up w wr∧Box wr w.heap.size #[.slice a n c,.int .i64 home,.slice sa sn sc,.slice ca cn cc] 29∧Box wr (w.heap.size+1) #[.int .i64 (d.l.1),.int .i64 (d.l.2),.int .i64 (d.h.1),.int .i64 (d.h.2),.int .i64 (d.g)] 33) ⟨Up.go,Box.go,Box.go⟩ ?_
   rintro V0 ⟨hu,b0,b1⟩
   have HB0:=hide (And.intro hu (And.intro b0 b1))
   clear hu b0 b1
   obtain ⟨s0,s1,s2,s3⟩:=(HB0.out.2.1).c4
   have ls:=(HB0.out.2.1).lt
   obtain ⟨dd0,dd1,dd2,dd3,dd4⟩:=(HB0.out.2.2).c5
   have ldd:=(HB0.out.2.2).lt
   refine (HC.out _ (Up.viz HB0.out.1)).mono ?_
   intro p1
   go_wp2_with (first|(go_at_call 45;refine (HI.out _).mono ?_;intro _)|(go_at_call 46;refine (HK2.out _ (Up.viz HB0.out.1)).mono ?_;intro _))
   refine bodyPost_give (Up.viz HB0.out.1) rfl ⟨_,(by simp [results,Tryz.results13,go_sem];rfl),?_⟩
   rfl
 rw [if_pos h1]
 subst h1
 have HP2:=hide (HP.out rfl)
 have HW2:=hide (HW.out rfl rfl rfl)
 clear HP HW HE
 (unfold Gives;go_enter Tryz.func13,Tryz.ntmps13)
 go_wp2_with fail
 go_at_call 10
 refine forgetK (fun wr=>Up w wr∧Box wr w.heap.size #[.slice a n c,.int .i64 home,.slice sa sn sc,.slice ca cn cc] 29∧Box wr (w.heap.size+1) #[.int .i64 (d.l.1),.int .i64 (d.l.2),.int .i64 (d.h.1),.int .i64 (d.h.2),.int .i64 (d.g)] 33) ⟨Up.go,Box.go,Box.go⟩ ?_
 rintro V0 ⟨hu,b0,b1⟩
 have HB0:=hide (And.intro hu (And.intro b0 b1))
 clear hu b0 b1
 obtain ⟨s0,s1,s2,s3⟩:=(HB0.out.2.1).c4
 have ls:=(HB0.out.2.1).lt
 obtain ⟨dd0,dd1,dd2,dd3,dd4⟩:=(HB0.out.2.2).c5
 have ldd:=(HB0.out.2.2).lt
 refine (HC.out _ (Up.viz HB0.out.1)).mono ?_
 intro p1
 go_wp2_with (first|(go_at_call 45;refine (HI.out _).mono ?_;intro _)|(go_at_call 46;refine (HK2.out _ (Up.viz HB0.out.1)).mono ?_;intro _))
 go_at_call 47
 refine (HP2.out _ (Up.viz HB0.out.1)).mono ?_
 rintro _ _ ⟨PB,MB,q,rfl,rfl,hp⟩
 rw [ext_ext] at hp
 have HW3:=hide (HW2.out _ (Up.viz HB0.out.1) PB MB hp)
 clear hp
 go_wp2_with (go_at_call 48;refine (HW3.out).mono ?_;intro _)
 refine bodyPost_give (Up.viz HB0.out.1) rfl ⟨_,(by simp [results,Tryz.results13,go_sem];rfl),?_⟩
 rfl
theorem flat_sure:∀ (l:List OffD) (m:Nat),m<l.length→TOff.flat (sureAt l m)=(TOff.flat l).set (m*11+10) (.bool true)
 | [],m,h=>by simp at h
 | x::l,0,_=>by
  unfold sureAt
  rw [List.modify_zero_cons]
  rfl
 | x::l,m+1,h=>by
  have ih:=flat_sure l m (by simpa using h)
  unfold sureAt at ih ⊢
  rw [List.modify_succ_cons]
  have e:∀ (y:OffD) (t:List OffD),TOff.flat (y::t)=TOff.f y++TOff.flat t:=fun y t=>by unfold Rw.flat;simp
  rw [e,e,ih,List.set_append_right _ _ (by rw [TOff.fk];show 11≤_;omega)]
  congr 2
  rw [TOff.fk]
  show m*11+10=(m+1)*11+10 - 11
  omega
theorem Own.sure {e:TypeId} {base:Nat} {w:World} {g n c:Nat} {l:List OffD} (h:Own TOff e base w (.slice (some ⟨g,0,none⟩) n c) l) {m:Nat} (hm:m<l.length):Own TOff e base (w.setCell ⟨g,m*11+10,none⟩ (.bool true)) (.slice (some ⟨g,0,none⟩) n c) (sureAt l m):=by
 obtain ⟨h1,h2⟩:=h
 have hlen:(sureAt l m).length=l.length:=by unfold sureAt;rw [List.length_modify]
 unfold Own
 rw [hlen,flat_sure l m hm]
 refine ⟨by rw [List.length_set];exact h1,?_⟩
 rcases h2 with ⟨h2,h3⟩ | ⟨g',cap,cur,hv,hb,hbx,h4,h5,h6,h7⟩
 · cases h2
 · simp at hv
   obtain ⟨rfl,hv2,rfl⟩:=hv
   have hbx':Box w g cur e:=hbx
   refine .inr ⟨g,c,cur.setIfInBounds (m*11+10) (.bool true),by rw [hv2],hb,hbx'.set (m*11+10) (.bool true),h4,h5,by simpa using h6,?_⟩
   rw [← h7,Array.toList_setIfInBounds,List.take_set]
theorem worst_chosen (HD:DelC) {K:Nat→Prop} {w:World} {a sa ca:Option Addr} {n c sn sc cn cc:Nat} {s:SkyD} {home:Int} (hh:s.home=home) (hL:SkyL K w a n c sa sn sc ca cn cc s) (d:DriftD) {KB:Nat→Prop} {ba:Option Addr} {bn bc:Nat} {set:List BoxD} (hB:Boxes KB w (.slice ba bn bc) set) {KO:Nat→Prop} {oa:Option Addr} {on oc:Nat} {offers:List OffD} (hO:Lst TOff KO w (.slice oa on oc) offers) {KI:Nat→Prop} {ia:Option Addr} {inn ic:Nat} {X:Int} (hI:Lst TInt KI w (.slice ia inn ic) (chL X on)) (hE:watchE s d 0 set offers=0) (g:Nat) (hg:g≤3) {R:Nat} (hR:R=worstT (tabV s d 0 set offers) (sureO offers) set.length g (chL X on)) :
 Gives Tryz.prog 13 #[.agg #[.slice a n c,.int .i64 home,.slice sa sn sc,.slice ca cn cc],.agg #[.int .i64 (d.l.1),.int .i64 (d.l.2),.int .i64 (d.h.1),.int .i64 (d.h.2),.int .i64 (d.g)],.int .i64 0,.slice ba bn bc,.slice oa on oc,.slice ia inn ic,.int .i64 g] w (.tuple #[.int .i64 R,.int .i64 0]):=by
 have h:=wWorst_any HD hL d 0 hB hO hI g
 have hon:=(Offs.at hO).1
 unfold worstV at h
 rw [if_pos hE,if_pos (show withinB (g:Int) 0 3=true by simp [withinB];omega),← hon,if_pos (chE_chL X on),Int.toNat_natCast,← hR,hh] at h
 exact h
theorem wAgrees_any {K:Nat→Prop} {w:World} {a sa ca:Option Addr} {n c sn sc cn cc:Nat} {s:SkyD} (hL:SkyL K w a n c sa sn sc ca cn cc s) (o:OffD) (i v:Int) (p:Int×Int):Gives Tryz.prog 30 #[.agg #[.slice a n c,.int .i64 s.home,.slice sa sn sc,.slice ca cn cc],.agg (offA o),.agg #[.int .i64 (i),.int .i64 (v)],.agg #[.int .i64 (p.1),.int .i64 (p.2)]] w (.bool (agreesV s o i v p)):=by
 have HC:=hide (fun W (hu:Up w W)=>wcheck_any (hL.up hu).b hL.h (hL.up hu).st (hL.up hu).ca o)
 have HP:=hide (fun W=>wplace_any p.1 p.2 W)
 unfold agreesV
 by_cases he:offE s o=0
 rotate_left
 · rw [if_neg (by simp [he])]
   have heb:(offE s o != 0)=true:=by simpa using he
   generalize offE s o=e at *
   generalize s.home=home at *
   clear hL he HP
   obtain ⟨p1,p2⟩:=p
   dsimp only
   (unfold Gives;go_enter Tryz.func30,Tryz.ntmps30)
   go_wp2_with fail
   go_at_call 44
   refine forgetK (fun V=>Up w V∧Box V w.heap.size #[.slice a n c,.int .i64 home,.slice sa sn sc,.slice ca cn cc] 29∧Box V (w.heap.size+1) (offA o) 50∧Box V (w.heap.size+1+1) #[.int .i64 (i),.int .i64 (v)] 82∧Box V (w.heap.size+1+1+1) #[.int .i64 (p1),.int .i64 (p2)] 48) ⟨Up.go,Box.go,Box.go,Box.go,Box.go⟩ ?_
   rintro V ⟨hu,bs,bo,br,bp⟩
   have HB:=hide hu
   clear hu
   refine (HC.out _ HB.out).mono ?_
   intro q1
   obtain ⟨s0,s1,s2,s3⟩:=bs.c4
   have ls:=bs.lt
   obtain ⟨f0,f1,f2,f3,f4,f5,f6,f7,f8,f9,f10⟩:=bo.c11
   have lf:=bo.lt
   obtain ⟨r0,r1⟩:=br.c2
   have lr:=br.lt
   obtain ⟨g0,g1⟩:=bp.c2
   have lg:=bp.lt
   clear bs bo br bp
   go_wp2_with fail
   go_ret
   exact ⟨rfl,(Up.via HB.out)⟩
 have HO:=hide (fun W (hu:Up w W)=>wof_any (hL.up hu).b hL.h (hL.up hu).st (hL.up hu).ca he)
 have hk:=kbd_of he
 rw [he] at HC
 have hp:nearV 33554432 (p.1,p.2)=true→PBd p:=fun h=>(nearV_iff _ _).1 h
 rw [show nearV 33554432 p=nearV 33554432 (p.1,p.2) from rfl]
 by_cases hN:nearV 33554432 (p.1,p.2)=true
 rotate_left
 · rw [if_neg (by simp [hN])]
   rw [show nearV 33554432 (p.1,p.2)=false by simpa using hN] at HP
   generalize s.home=home at *
   clear hL he hk hp hN HO
   obtain ⟨p1,p2⟩:=p
   dsimp only at *
   (unfold Gives;go_enter Tryz.func30,Tryz.ntmps30)
   go_wp2_with fail
   go_at_call 44
   refine forgetK (fun V=>Up w V∧Box V w.heap.size #[.slice a n c,.int .i64 home,.slice sa sn sc,.slice ca cn cc] 29∧Box V (w.heap.size+1) (offA o) 50∧Box V (w.heap.size+1+1) #[.int .i64 (i),.int .i64 (v)] 82∧Box V (w.heap.size+1+1+1) #[.int .i64 (p1),.int .i64 (p2)] 48) ⟨Up.go,Box.go,Box.go,Box.go,Box.go⟩ ?_
   rintro V ⟨hu,bs,bo,br,bp⟩
   have HB:=hide hu
   clear hu
   refine (HC.out _ HB.out).mono ?_
   intro q1
   obtain ⟨s0,s1,s2,s3⟩:=bs.c4
   have ls:=bs.lt
   obtain ⟨f0,f1,f2,f3,f4,f5,f6,f7,f8,f9,f10⟩:=bo.c11
   have lf:=bo.lt
   obtain ⟨r0,r1⟩:=br.c2
   have lr:=br.lt
   obtain ⟨g0,g1⟩:=bp.c2
   have lg:=bp.lt
   clear bs bo br bp
   go_wp2_with (first|(go_at_call 49;refine (HP.out _).mono ?_;intro _))
   go_ret
   exact ⟨rfl,(Up.via HB.out)⟩
 have hpb:=hp hN
 rw [hN] at HP
 rw [if_pos ⟨he,hN⟩]
 generalize kndOf s o=k at *
 by_cases hi:i≠1∧i≠2
 · generalize kndV k=KV at *
   rw [if_neg hi.1,if_neg hi.2]
   have i1:(i==1)=false:=by simpa using hi.1
   have i2:(i==2)=false:=by simpa using hi.2
   generalize s.home=home at *
   clear hL he hp hN hk hpb hi
   obtain ⟨p1,p2⟩:=p
   dsimp only at *
   have key:∀ b:Bool,(i==0)=b→Gives Tryz.prog 30 #[.agg #[.slice a n c,.int .i64 home,.slice sa sn sc,.slice ca cn cc],.agg (offA o),.agg #[.int .i64 (i),.int .i64 (v)],.agg #[.int .i64 (p1),.int .i64 (p2)]] w (.bool b):=fun b hb=>by
    cases b
    all_goals
     (unfold Gives;go_enter Tryz.func30,Tryz.ntmps30)
     go_wp2_with fail
     go_at_call 44
     refine forgetK (fun V=>Up w V∧Box V w.heap.size #[.slice a n c,.int .i64 home,.slice sa sn sc,.slice ca cn cc] 29∧Box V (w.heap.size+1) (offA o) 50∧Box V (w.heap.size+1+1) #[.int .i64 (i),.int .i64 (v)] 82∧Box V (w.heap.size+1+1+1) #[.int .i64 (p1),.int .i64 (p2)] 48) ⟨Up.go,Box.go,Box.go,Box.go,Box.go⟩ ?_
     rintro V ⟨hu,bs,bo,br,bp⟩
     have HB:=hide hu
     clear hu
     refine (HC.out _ HB.out).mono ?_
     intro q1
     obtain ⟨s0,s1,s2,s3⟩:=bs.c4
     have ls:=bs.lt
     obtain ⟨f0,f1,f2,f3,f4,f5,f6,f7,f8,f9,f10⟩:=bo.c11
     have lf:=bo.lt
     obtain ⟨r0,r1⟩:=br.c2
     have lr:=br.lt
     obtain ⟨g0,g1⟩:=bp.c2
     have lg:=bp.lt
     clear bs bo br bp
     go_wp2_with (first|(go_at_call 49;refine (HP.out _).mono ?_;intro _)|(go_at_call 50;refine (HO.out _ (Up.viz HB.out)).mono ?_;intro _))
     go_ret
     exact ⟨rfl,(Up.via HB.out)⟩
   by_cases h0:i=0
   · rw [if_pos h0];exact key true (by simp [h0])
   · rw [if_neg h0];exact key false (by simp [h0])
 have hi0:¬ i=0:=by omega
 rw [if_neg hi0]
 have i0:(i==0)=false:=by simpa using hi0
 unfold kndV at HO
 cases hs:k.sc
 · rw [if_neg (by simp [hs])] at HO
   have HF:=hide (fun W=>wrfield_any hk hpb hs W)
   have HR:=hide (fun (hf:fieldK k p=true) W=>wrreads_any hk hpb hs W)
   have HW:=hide (fun W=>wwithin_any v (readsK k p).1 (readsK k p).2 W)
   have hmf:=fun (n:Nat) (w:World)=>(meth_r k n w).2.1
   have hmr:=fun (n:Nat) (w:World)=>(meth_r k n w).2.2.2
   simp only [mField,mReads,theName] at hmf hmr
   generalize readsK k p=R at *
   obtain ⟨R1,R2⟩:=R
   dsimp only at *
   generalize withinB v R1 R2=b at *
   generalize fieldK k p=F at *
   generalize s.home=home at *
   clear hL he hp hN hk hpb hs
   obtain ⟨p1,p2⟩:=p
   dsimp only at *
   by_cases h1:i=1
   · have i1:(i==1)=true:=by simpa using h1
     rw [if_pos h1]
     clear HR HW hmr hi hi0 h1
     (unfold Gives;go_enter Tryz.func30,Tryz.ntmps30)
     go_wp2_with fail
     go_at_call 44
     refine forgetK (fun V=>Up w V∧Box V w.heap.size #[.slice a n c,.int .i64 home,.slice sa sn sc,.slice ca cn cc] 29∧Box V (w.heap.size+1) (offA o) 50∧Box V (w.heap.size+1+1) #[.int .i64 (i),.int .i64 (v)] 82∧Box V (w.heap.size+1+1+1) #[.int .i64 (p1),.int .i64 (p2)] 48) ⟨Up.go,Box.go,Box.go,Box.go,Box.go⟩ ?_
     rintro V ⟨hu,bs,bo,br,bp⟩
     have HB:=hide hu
     clear hu
     refine (HC.out _ HB.out).mono ?_
     intro q1
     obtain ⟨s0,s1,s2,s3⟩:=bs.c4
     have ls:=bs.lt
     obtain ⟨f0,f1,f2,f3,f4,f5,f6,f7,f8,f9,f10⟩:=bo.c11
     have lf:=bo.lt
     obtain ⟨r0,r1⟩:=br.c2
     have lr:=br.lt
     obtain ⟨g0,g1⟩:=bp.c2
     have lg:=bp.lt
     clear bs bo br bp
     go_wp2_with (first|(go_at_call 49;refine (HP.out _).mono ?_;intro _)|(go_at_call 50;refine (HO.out _ (Up.viz HB.out)).mono ?_;intro _)|(go_at_call 291;refine (HF.out _).mono ?_;intro _))
     go_ret
     exact ⟨rfl,(Up.via HB.out)⟩
   · have h2:i=2:=by omega
     have i1:(i==1)=false:=by simpa using h1
     have i2:(i==2)=true:=by simpa using h2
     rw [if_neg h1,if_pos h2]
     clear hi h1 hi0 h2
     cases F
     · clear HR HW hmr
       rw [Bool.false_and]
       (unfold Gives;go_enter Tryz.func30,Tryz.ntmps30)
       go_wp2_with fail
       go_at_call 44
       refine forgetK (fun V=>Up w V∧Box V w.heap.size #[.slice a n c,.int .i64 home,.slice sa sn sc,.slice ca cn cc] 29∧Box V (w.heap.size+1) (offA o) 50∧Box V (w.heap.size+1+1) #[.int .i64 (i),.int .i64 (v)] 82∧Box V (w.heap.size+1+1+1) #[.int .i64 (p1),.int .i64 (p2)] 48) ⟨Up.go,Box.go,Box.go,Box.go,Box.go⟩ ?_
       rintro V ⟨hu,bs,bo,br,bp⟩
       have HB:=hide hu
       clear hu
       refine (HC.out _ HB.out).mono ?_
       intro q1
       obtain ⟨s0,s1,s2,s3⟩:=bs.c4
       have ls:=bs.lt
       obtain ⟨f0,f1,f2,f3,f4,f5,f6,f7,f8,f9,f10⟩:=bo.c11
       have lf:=bo.lt
       obtain ⟨r0,r1⟩:=br.c2
       have lr:=br.lt
       obtain ⟨g0,g1⟩:=bp.c2
       have lg:=bp.lt
       clear bs bo br bp
       go_wp2_with (first|(go_at_call 49;refine (HP.out _).mono ?_;intro _)|(go_at_call 50;refine (HO.out _ (Up.viz HB.out)).mono ?_;intro _)|(go_at_call 291;refine (HF.out _).mono ?_;intro _))
       go_ret
       exact ⟨rfl,(Up.via HB.out)⟩
     · rw [Bool.true_and]
       replace HR:=hide (HR.out rfl)
       (unfold Gives;go_enter Tryz.func30,Tryz.ntmps30)
       go_wp2_with fail
       go_at_call 44
       refine forgetK (fun V=>Up w V∧Box V w.heap.size #[.slice a n c,.int .i64 home,.slice sa sn sc,.slice ca cn cc] 29∧Box V (w.heap.size+1) (offA o) 50∧Box V (w.heap.size+1+1) #[.int .i64 (i),.int .i64 (v)] 82∧Box V (w.heap.size+1+1+1) #[.int .i64 (p1),.int .i64 (p2)] 48) ⟨Up.go,Box.go,Box.go,Box.go,Box.go⟩ ?_
       rintro V ⟨hu,bs,bo,br,bp⟩
       have HB:=hide hu
       clear hu
       refine (HC.out _ HB.out).mono ?_
       intro q1
       obtain ⟨s0,s1,s2,s3⟩:=bs.c4
       have ls:=bs.lt
       obtain ⟨f0,f1,f2,f3,f4,f5,f6,f7,f8,f9,f10⟩:=bo.c11
       have lf:=bo.lt
       obtain ⟨r0,r1⟩:=br.c2
       have lr:=br.lt
       obtain ⟨g0,g1⟩:=bp.c2
       have lg:=bp.lt
       clear bs bo br bp
       go_wp2_with (first|(go_at_call 49;refine (HP.out _).mono ?_;intro _)|(go_at_call 50;refine (HO.out _ (Up.viz HB.out)).mono ?_;intro _)|(go_at_call 291;refine (HF.out _).mono ?_;intro _)|(go_at_call 293;refine (HR.out _).mono ?_;intro _)|(go_at_call 45;refine (HW.out _).mono ?_;intro _))
       go_ret
       exact ⟨rfl,(Up.via HB.out)⟩
 · rw [if_pos (by simp [hs])] at HO
   have HF:=hide (fun W=>wsfield_any hk hpb hs W)
   have HR:=hide (fun (hf:fieldK k p=true) W=>wsreads_any hk hpb hs (field_front hf hs) W)
   have HW:=hide (fun W=>wwithin_any v (readsK k p).1 (readsK k p).2 W)
   have hmf:=fun (n:Nat) (w:World)=>(meth_s k n w).2.1
   have hmr:=fun (n:Nat) (w:World)=>(meth_s k n w).2.2.2
   simp only [mField,mReads,theName] at hmf hmr
   generalize readsK k p=R at *
   obtain ⟨R1,R2⟩:=R
   dsimp only at *
   generalize withinB v R1 R2=b at *
   generalize fieldK k p=F at *
   generalize s.home=home at *
   clear hL he hp hN hk hpb hs
   obtain ⟨p1,p2⟩:=p
   dsimp only at *
   by_cases h1:i=1
   · have i1:(i==1)=true:=by simpa using h1
     rw [if_pos h1]
     clear HR HW hmr hi hi0 h1
     (unfold Gives;go_enter Tryz.func30,Tryz.ntmps30)
     go_wp2_with fail
     go_at_call 44
     refine forgetK (fun V=>Up w V∧Box V w.heap.size #[.slice a n c,.int .i64 home,.slice sa sn sc,.slice ca cn cc] 29∧Box V (w.heap.size+1) (offA o) 50∧Box V (w.heap.size+1+1) #[.int .i64 (i),.int .i64 (v)] 82∧Box V (w.heap.size+1+1+1) #[.int .i64 (p1),.int .i64 (p2)] 48) ⟨Up.go,Box.go,Box.go,Box.go,Box.go⟩ ?_
     rintro V ⟨hu,bs,bo,br,bp⟩
     have HB:=hide hu
     clear hu
     refine (HC.out _ HB.out).mono ?_
     intro q1
     obtain ⟨s0,s1,s2,s3⟩:=bs.c4
     have ls:=bs.lt
     obtain ⟨f0,f1,f2,f3,f4,f5,f6,f7,f8,f9,f10⟩:=bo.c11
     have lf:=bo.lt
     obtain ⟨r0,r1⟩:=br.c2
     have lr:=br.lt
     obtain ⟨g0,g1⟩:=bp.c2
     have lg:=bp.lt
     clear bs bo br bp
     go_wp2_with (first|(go_at_call 49;refine (HP.out _).mono ?_;intro _)|(go_at_call 50;refine (HO.out _ (Up.viz HB.out)).mono ?_;intro _)|(go_at_call 297;refine (HF.out _).mono ?_;intro _))
     go_ret
     exact ⟨rfl,(Up.via HB.out)⟩
   · have h2:i=2:=by omega
     have i1:(i==1)=false:=by simpa using h1
     have i2:(i==2)=true:=by simpa using h2
     rw [if_neg h1,if_pos h2]
     clear hi h1 hi0 h2
     cases F
     · clear HR HW hmr
       rw [Bool.false_and]
       (unfold Gives;go_enter Tryz.func30,Tryz.ntmps30)
       go_wp2_with fail
       go_at_call 44
       refine forgetK (fun V=>Up w V∧Box V w.heap.size #[.slice a n c,.int .i64 home,.slice sa sn sc,.slice ca cn cc] 29∧Box V (w.heap.size+1) (offA o) 50∧Box V (w.heap.size+1+1) #[.int .i64 (i),.int .i64 (v)] 82∧Box V (w.heap.size+1+1+1) #[.int .i64 (p1),.int .i64 (p2)] 48) ⟨Up.go,Box.go,Box.go,Box.go,Box.go⟩ ?_
       rintro V ⟨hu,bs,bo,br,bp⟩
       have HB:=hide hu
       clear hu
       refine (HC.out _ HB.out).mono ?_
       intro q1
       obtain ⟨s0,s1,s2,s3⟩:=bs.c4
       have ls:=bs.lt
       obtain ⟨f0,f1,f2,f3,f4,f5,f6,f7,f8,f9,f10⟩:=bo.c11
       have lf:=bo.lt
       obtain ⟨r0,r1⟩:=br.c2
       have lr:=br.lt
       obtain ⟨g0,g1⟩:=bp.c2
       have lg:=bp.lt
       clear bs bo br bp
       go_wp2_with (first|(go_at_call 49;refine (HP.out _).mono ?_;intro _)|(go_at_call 50;refine (HO.out _ (Up.viz HB.out)).mono ?_;intro _)|(go_at_call 297;refine (HF.out _).mono ?_;intro _))
       go_ret
       exact ⟨rfl,(Up.via HB.out)⟩
     · rw [Bool.true_and]
       replace HR:=hide (HR.out rfl)
       (unfold Gives;go_enter Tryz.func30,Tryz.ntmps30)
       go_wp2_with fail
       go_at_call 44
       refine forgetK (fun V=>Up w V∧Box V w.heap.size #[.slice a n c,.int .i64 home,.slice sa sn sc,.slice ca cn cc] 29∧Box V (w.heap.size+1) (offA o) 50∧Box V (w.heap.size+1+1) #[.int .i64 (i),.int .i64 (v)] 82∧Box V (w.heap.size+1+1+1) #[.int .i64 (p1),.int .i64 (p2)] 48) ⟨Up.go,Box.go,Box.go,Box.go,Box.go⟩ ?_
       rintro V ⟨hu,bs,bo,br,bp⟩
       have HB:=hide hu
       clear hu
       refine (HC.out _ HB.out).mono ?_
       intro q1
       obtain ⟨s0,s1,s2,s3⟩:=bs.c4
       have ls:=bs.lt
       obtain ⟨f0,f1,f2,f3,f4,f5,f6,f7,f8,f9,f10⟩:=bo.c11
       have lf:=bo.lt
       obtain ⟨r0,r1⟩:=br.c2
       have lr:=br.lt
       obtain ⟨g0,g1⟩:=bp.c2
       have lg:=bp.lt
       clear bs bo br bp
       go_wp2_with (first|(go_at_call 49;refine (HP.out _).mono ?_;intro _)|(go_at_call 50;refine (HO.out _ (Up.viz HB.out)).mono ?_;intro _)|(go_at_call 297;refine (HF.out _).mono ?_;intro _)|(go_at_call 299;refine (HR.out _).mono ?_;intro _)|(go_at_call 45;refine (HW.out _).mono ?_;intro _))
       go_ret
       exact ⟨rfl,(Up.via HB.out)⟩
end Go.Proofs.YteafglginnonnaaGreat
