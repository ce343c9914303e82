/- Several texts in one. -/
import Derived.Test.YteafglginnonnaaGreatWst
import Derived.Scope
import Derived.Test.YteafglginnonnaaGreatW6b
/- Package watch: Left. Conditions: what lies in memory. -/
set_option linter.unusedVariables false
set_option linter.unusedSimpArgs false
namespace Go.Proofs.YteafglginnonnaaGreat
set_option maxHeartbeats 20000000
set_option maxRecDepth 100000
open Go.RowKit Go.Shelf
theorem wp_scope_body {P:Program} {f:Func} {R:Ending→World→Prop} {c:Code} {a:Act} {w:World} (h:c.wp P (bodyPost P f R) a w):(Code.scope c).wp P (bodyPost P f R) a w:=by
 refine wp_scope_straight ?_
 rw [show Exit.noGoto (bodyPost P f R)=bodyPost P f R from by funext e a w;cases e <;> rfl]
 exact h
def keepT (T:Int→Int→VwD) (ch:List Int) (rs:List (Int×Int)) (i:Int) (k:Nat):Bool:=(List.range k).all fun j=>leftB (T (ch.getD j 0) i) (rs.getD j (0,0))
def leftL (T:Int→Int→VwD) (ch:List Int) (rs:List (Int×Int)) (k:Nat):List Int:=((List.range k).filter fun (i:Nat)=>keepT T ch rs i ch.length).map fun (i:Nat)=>(i:Int)
theorem keepT_zero (T:Int→Int→VwD) (ch:List Int) (rs:List (Int×Int)) (i:Int):keepT T ch rs i 0=true:=rfl
theorem keepT_succ (T:Int→Int→VwD) (ch:List Int) (rs:List (Int×Int)) (i:Int) (k:Nat):keepT T ch rs i (k+1)=(keepT T ch rs i k&&leftB (T (ch.getD k 0) i) (rs.getD k (0,0))):=by
 unfold keepT
 rw [List.range_succ,List.all_append]
 simp
theorem keepT_no {T:Int→Int→VwD} {ch:List Int} {rs:List (Int×Int)} {i:Int} {k:Nat} (hk:k<ch.length) (h:leftB (T (ch.getD k 0) i) (rs.getD k (0,0))=false):keepT T ch rs i ch.length=false:=by
 unfold keepT
 rw [List.all_eq_false]
 exact ⟨k,List.mem_range.2 hk,by rw [h];decide⟩
theorem leftL_yes {T:Int→Int→VwD} {ch:List Int} {rs:List (Int×Int)} {k:Nat} (h:keepT T ch rs k ch.length=true):leftL T ch rs (k+1)=leftL T ch rs k++[(k:Int)]:=by
 unfold leftL
 rw [List.range_succ,List.filter_append,List.map_append]
 simp [h]
theorem leftL_no {T:Int→Int→VwD} {ch:List Int} {rs:List (Int×Int)} {k:Nat} (h:keepT T ch rs k ch.length=false):leftL T ch rs (k+1)=leftL T ch rs k:=by
 unfold leftL
 rw [List.range_succ,List.filter_append,List.map_append]
 simp [h]
theorem leftL_le (T:Int→Int→VwD) (ch:List Int) (rs:List (Int×Int)) (k:Nat):(leftL T ch rs k).length≤k:=by
 unfold leftL
 rw [List.length_map]
 have:=List.length_filter_le (fun (i:Nat)=>keepT T ch rs i ch.length) (List.range k)
 simpa using this
def leftV (s:SkyD) (d:DriftD) (t:Int) (set:List BoxD) (offers:List OffD) (ch:List Int) (rs:List (Int×Int)):List Int×Int :=
 if watchE s d t set offers=0 then
  (if chE offers.length ch=0 then
   (if rs.length=ch.length∧rs.any (fun r=>!rdB r)=false then (leftL (tabV s d t set offers) ch rs set.length,0) else ([],2))
   else ([],7))
 else ([],watchE s d t set offers)
def GivesInts (w:World) (l:List Int) (y:Value) (e:Ending) (W:World):Prop:=∃ (a:Option Addr) (n c:Nat) (p:Ext),e=.returned (.tuple #[.slice a n c,y])∧Lst TInt (fun b=>w.heap.size≤b) W (.slice a n c) l∧W=ext w p
theorem GivesInts.fin {w W:World} {l:List Int} {y:Value} {a:Option Addr} {n c:Nat} (hu:Up w W) (h:Lst TInt (fun b=>w.heap.size≤b) W (.slice a n c) l):GivesInts w l y (.returned (.tuple #[.slice a n c,y])) W :=
 let ⟨p,hp⟩:=hu
 ⟨a,n,c,p,rfl,h,hp⟩
structure LfS (w:World) (Z:Nat) (wr:World) (PB MB:Nat) (oa:Option Addr) (on oc bn:Nat) (T:Int→Int→VwD) (v:Value) (l:List Int):Prop where
 u:Up w wr
 p:PlanT wr PB MB oa on oc bn T
 o:Own TInt 3 Z wr v l
 z:w.heap.size≤Z∧PB<Z∧MB<Z
 w:Z≤wr.heap.size
theorem LfS.up {w W V:World} {Z PB MB:Nat} {oa:Option Addr} {on oc bn:Nat} {T:Int→Int→VwD} {v:Value} {l:List Int} (h:LfS w Z W PB MB oa on oc bn T v l) (hu:Up W V):LfS w Z V PB MB oa on oc bn T v l:=⟨h.u.trans hu,h.p.up hu,h.o.up hu,h.z,Nat.le_trans h.w hu.below.size⟩
theorem wLeft_any {K:Nat→Prop} {w:World} {a sa ca:Option Addr} {n c sn sc cn cc:Nat} {s:SkyD} (hL:SkyL K w a n c sa sn sc ca cn cc s) (d:DriftD) (t:Int) {KB:Nat→Prop} {ba:Option Addr} {bn bc:Nat} {set:List BoxD} (hB:Boxes KB w (.slice ba bn bc) set) {KO:Nat→Prop} {oa:Option Addr} {on oc:Nat} {offers:List OffD} (hO:Lst TOff KO w (.slice oa on oc) offers) {KI:Nat→Prop} {ia:Option Addr} {inn ic:Nat} {ch:List Int} (hI:Lst TInt KI w (.slice ia inn ic) ch) {KR:Nat→Prop} {ra:Option Addr} {rn rc:Nat} {rs:List (Int×Int)} (hR:Lst TRd KR w (.slice ra rn rc) rs):Calls Tryz.prog 31 #[.agg #[.slice a n c,.int .i64 s.home,.slice sa sn sc,.slice ca cn cc],.agg #[.int .i64 (d.l.1),.int .i64 (d.l.2),.int .i64 (d.h.1),.int .i64 (d.h.2),.int .i64 (d.g)],.int .i64 t,.slice ba bn bc,.slice oa on oc,.slice ia inn ic,.slice ra rn rc] w (GivesInts w (leftV s d t set offers ch rs).1 (.int .i64 (leftV s d t set offers ch rs).2)):=by
 have HC:=hide (fun W (hu:Up w W)=>wwatch_any (hL.up hu) d t (hB.keeps (hu.keeps KB)) (hO.up hu))
 have hon:=(Offs.at hO).1
 have hbn:=(Boxes.at hB).1
 have hin:=(Ints.at hI).1
 have him:=(Ints.at hI).2.1
 have hrn:=(Rds.at hR).1
 have hrm:=(Rds.at hR).2.1
 have HK:=hide (fun (h:watchE s d t set offers=0) W (hu:Up w W)=>wchk_any (oa:=oa) (oc:=oc) (on:=on) (by have:=(watchE_zero h).2.2.1;omega) (hI.up hu))
 have HRR:=hide (fun W (hu:Up w W)=>anyrdg_any 73 #[] (enters_of Tryz.func73 (by kernel_rfl) rfl) (fun r=>!rdB r) (hR.up hu) (fun p V _ _=>wleft1_any p V))
 have HP:=hide (fun (h:watchE s d t set offers=0) W (hu:Up w W)=>plan_any (hL.up hu) d t (hB.keeps (hu.keeps KB)) (hO.up hu) h)
 have HB100:=hide (fun (h:watchE s d t set offers=0)=>show bn≤100 by have:=(watchE_zero h).2.2.1;omega)
 have HCZ:=hide (fun (h:chE on ch=0)=>(chE_zero h).1)
 have HI:=hide hI
 have HR:=hide hR
 unfold leftV
 rw [← hbn,← hon]
 rw [← hrn,← hin]
 have HE:=hide (chE_two on ch)
 generalize tabV s d t set offers=TV at *
 generalize watchE s d t set offers=E at *
 generalize chE on ch=CE at *
 generalize rs.any (fun r=>!rdB r)=RA at *
 generalize s.home=home at *
 have HN:=hide (And.intro hin hrn)
 clear hL hB hO hI hR hon hbn hin hrn
 by_cases h0:E=0
 rotate_left
 · rw [if_neg h0]
   have heb:(E != 0)=true:=by simpa using h0
   clear h0 HP HK HB100
   go_enter Tryz.func31,Tryz.ntmps31
   go_wp2_with fail
   refine wp_scope_body ?_
   go_wp2_with fail
   go_at_call 10
   refine forgetK (fun wr=>Up w wr∧Box wr w.heap.size #[.slice a n c,.int .i64 home,.slice sa sn sc,.slice ca cn cc] 29∧Box wr (w.heap.size+1) #[.int .i64 (d.l.1),.int .i64 (d.l.2),.int .i64 (d.h.1),.int .i64 (d.h.2),.int .i64 (d.g)] 33) ⟨Up.go,Box.go,Box.go⟩ ?_
   rintro V0 ⟨hu,b0,b1⟩
   have HB0:=hide (And.intro hu (And.intro b0 b1))
   clear hu b0 b1
   obtain ⟨s0,s1,s2,s3⟩:=(HB0.out.2.1).c4
   have ls:=(HB0.out.2.1).lt
   obtain ⟨dd0,dd1,dd2,dd3,dd4⟩:=(HB0.out.2.2).c5
   have ldd:=(HB0.out.2.2).lt
   refine (HC.out _ (Up.viz HB0.out.1)).mono ?_
   intro p1
   go_wp2
   exact bodyPost_ret (v:=.tuple #[.slice none 0 0,.int .i64 E]) (by simp [results,Tryz.results31,go_sem]) rfl (GivesInts.fin (Up.viz HB0.out.1) (Lies.nil _ _ _ _ _ _))
 rw [if_pos h0]
 subst h0
 have HK2:=hide (HK.out rfl)
 clear HK
 by_cases h1:CE=0
 rotate_left
 · rw [if_neg h1]
   obtain rfl:CE=7:=by rcases HE.out with h | h;exact absurd h h1;exact h
   clear HP h1 HB100 HCZ
   go_enter Tryz.func31,Tryz.ntmps31
   go_wp2_with fail
   refine wp_scope_body ?_
   go_wp2_with fail
   go_at_call 10
   refine forgetK (fun wr=>Up w wr∧Box wr w.heap.size #[.slice a n c,.int .i64 home,.slice sa sn sc,.slice ca cn cc] 29∧Box wr (w.heap.size+1) #[.int .i64 (d.l.1),.int .i64 (d.l.2),.int .i64 (d.h.1),.int .i64 (d.h.2),.int .i64 (d.g)] 33) ⟨Up.go,Box.go,Box.go⟩ ?_
   rintro V0 ⟨hu,b0,b1⟩
   have HB0:=hide (And.intro hu (And.intro b0 b1))
   clear hu b0 b1
   obtain ⟨s0,s1,s2,s3⟩:=(HB0.out.2.1).c4
   have ls:=(HB0.out.2.1).lt
   obtain ⟨dd0,dd1,dd2,dd3,dd4⟩:=(HB0.out.2.2).c5
   have ldd:=(HB0.out.2.2).lt
   refine (HC.out _ (Up.viz HB0.out.1)).mono ?_
   intro p1
   go_wp2_with (go_at_call 46;refine (HK2.out _ (Up.viz HB0.out.1)).mono ?_;intro _)
   exact bodyPost_ret (v:=.tuple #[.slice none 0 0,.int .i64 7]) (by simp [results,Tryz.results31,go_sem]) rfl (GivesInts.fin (Up.viz HB0.out.1) (Lies.nil _ _ _ _ _ _))
 rw [if_pos h1]
 subst h1
 have HCZ2:=hide (HCZ.out rfl)
 clear HCZ HE
 by_cases h2:rn=inn
 rotate_left
 · rw [if_neg (by intro h;exact h2 h.1)]
   have d2:((rn:Int) != (inn:Int))=true:=by simp;omega
   clear HP h2 HB100
   go_enter Tryz.func31,Tryz.ntmps31
   go_wp2_with fail
   refine wp_scope_body ?_
   go_wp2_with fail
   go_at_call 10
   refine forgetK (fun wr=>Up w wr∧Box wr w.heap.size #[.slice a n c,.int .i64 home,.slice sa sn sc,.slice ca cn cc] 29∧Box wr (w.heap.size+1) #[.int .i64 (d.l.1),.int .i64 (d.l.2),.int .i64 (d.h.1),.int .i64 (d.h.2),.int .i64 (d.g)] 33) ⟨Up.go,Box.go,Box.go⟩ ?_
   rintro V0 ⟨hu,b0,b1⟩
   have HB0:=hide (And.intro hu (And.intro b0 b1))
   clear hu b0 b1
   obtain ⟨s0,s1,s2,s3⟩:=(HB0.out.2.1).c4
   have ls:=(HB0.out.2.1).lt
   obtain ⟨dd0,dd1,dd2,dd3,dd4⟩:=(HB0.out.2.2).c5
   have ldd:=(HB0.out.2.2).lt
   refine (HC.out _ (Up.viz HB0.out.1)).mono ?_
   intro p1
   go_wp2_with (go_at_call 46;refine (HK2.out _ (Up.viz HB0.out.1)).mono ?_;intro _)
   exact bodyPost_ret (v:=.tuple #[.slice none 0 0,.int .i64 2]) (by simp [results,Tryz.results31,go_sem]) rfl (GivesInts.fin (Up.viz HB0.out.1) (Lies.nil _ _ _ _ _ _))
 subst h2
 have d2:((rn:Int) != (rn:Int))=false:=by simp
 rcases RA with _ | _
 rotate_left
 · rw [if_neg (by intro h;exact absurd h.2 (by decide))]
   clear HP HB100
   go_enter Tryz.func31,Tryz.ntmps31
   go_wp2_with fail
   refine wp_scope_body ?_
   go_wp2_with fail
   go_at_call 10
   refine forgetK (fun wr=>Up w wr∧Box wr w.heap.size #[.slice a n c,.int .i64 home,.slice sa sn sc,.slice ca cn cc] 29∧Box wr (w.heap.size+1) #[.int .i64 (d.l.1),.int .i64 (d.l.2),.int .i64 (d.h.1),.int .i64 (d.h.2),.int .i64 (d.g)] 33) ⟨Up.go,Box.go,Box.go⟩ ?_
   rintro V0 ⟨hu,b0,b1⟩
   have HB0:=hide (And.intro hu (And.intro b0 b1))
   clear hu b0 b1
   obtain ⟨s0,s1,s2,s3⟩:=(HB0.out.2.1).c4
   have ls:=(HB0.out.2.1).lt
   obtain ⟨dd0,dd1,dd2,dd3,dd4⟩:=(HB0.out.2.2).c5
   have ldd:=(HB0.out.2.2).lt
   refine (HC.out _ (Up.viz HB0.out.1)).mono ?_
   intro p1
   go_wp2_with (first|(go_at_call 46;refine (HK2.out _ (Up.viz HB0.out.1)).mono ?_;intro _)|(go_at_call 72;refine (HRR.out _ (Up.viz HB0.out.1)).mono ?_;intro _))
   exact bodyPost_ret (v:=.tuple #[.slice none 0 0,.int .i64 2]) (by simp [results,Tryz.results31,go_sem]) rfl (GivesInts.fin (Up.viz HB0.out.1) (Lies.nil _ _ _ _ _ _))
 rw [if_pos ⟨rfl,rfl⟩]
 have HP2:=hide (HP.out rfl)
 have hb100:=HB100.out rfl
 clear HP HB100
 go_enter Tryz.func31,Tryz.ntmps31
 go_wp2_with fail
 refine wp_scope_body ?_
 go_wp2_with fail
 go_at_call 10
 refine forgetK (fun wr=>Up w wr∧Box wr w.heap.size #[.slice a n c,.int .i64 home,.slice sa sn sc,.slice ca cn cc] 29∧Box wr (w.heap.size+1) #[.int .i64 (d.l.1),.int .i64 (d.l.2),.int .i64 (d.h.1),.int .i64 (d.h.2),.int .i64 (d.g)] 33) ⟨Up.go,Box.go,Box.go⟩ ?_
 rintro V0 ⟨hu,b0,b1⟩
 have HB0:=hide (And.intro hu (And.intro b0 b1))
 clear hu b0 b1
 obtain ⟨s0,s1,s2,s3⟩:=(HB0.out.2.1).c4
 have ls:=(HB0.out.2.1).lt
 obtain ⟨dd0,dd1,dd2,dd3,dd4⟩:=(HB0.out.2.2).c5
 have ldd:=(HB0.out.2.2).lt
 refine (HC.out _ (Up.viz HB0.out.1)).mono ?_
 intro p1
 go_wp2_with (first|(go_at_call 46;refine (HK2.out _ (Up.viz HB0.out.1)).mono ?_;intro _)|(go_at_call 72;refine (HRR.out _ (Up.viz HB0.out.1)).mono ?_;intro _))
 go_at_call 47
 refine (HP2.out _ (Up.viz HB0.out.1)).mono ?_
 rintro _ _ ⟨PB,MB,q,rfl,rfl,hp⟩
 rw [ext_ext] at hp
 have H0:=hide (And.intro (show Up w _ from (Up.viz HB0.out.1)) hp)
 clear hp HP2 HC HK2 HRR HB0 s0 s1 s2 s3 ls dd0 dd1 dd2 dd3 dd4 ldd
 go_wp2_with fail
 refine forgetW (fun V=>Up w V∧PlanT V PB MB oa on oc bn TV) ⟨H0.out.1.ext _,H0.out.2⟩ ?_
 clear H0
 intro V1 h1
 have H0:=hide (LfS.mk (Z:=V1.heap.size) (v:=.slice none 0 0) (l:=leftL TV ch rs 0) h1.1 h1.2 (Own.nil _ _ _ _) ⟨h1.1.below.size,h1.2.lt⟩ (Nat.le_refl _))
 obtain ⟨Z,hZ⟩:∃ Z,Z=V1.heap.size:=⟨_,rfl⟩
 rw [← hZ] at H0
 clear h1 hZ
 have q1:=H0.out.p.p.cell 1 rfl
 have lq:=H0.out.p.p.lt
 apply wp_label
 unfold Exit.then
 dsimp only
 go_wp2_with fail
 clear q1 lq
 go_loopw [19,57] (fun s19 s57 wr=>∃ i:Nat,i≤bn∧s57=.int .i64 i∧Hid (LfS w Z wr PB MB oa on oc bn TV s19 (leftL TV ch rs i))) (fun _ s57 _=>bn - (intOf s57).toNat)
 case atStart=>exact ⟨0,by omega,rfl,hide (H0.out.up Up.go)⟩
 case round =>
  obtain ⟨i,hi,rfl,HS⟩:=hrel
  clear H0
  by_cases hlt:i<bn
  · have hib:decide ((i:Int)<bn)=true:=by simp;omega
    have hin:decide (i<bn)=true:=by simp;omega
    have q1:=HS.out.p.p.cell 1 rfl
    have lq:=HS.out.p.p.lt
    go_wp2_with fail
    clear q1 lq
    go_loopw [62] (fun s62 wi=>∃ k:Nat,k≤rn∧s62=.int .i64 k∧Hid (keepT TV ch rs i k=true)∧Hid (LfS w Z wi PB MB oa on oc bn TV u19 (leftL TV ch rs i))) (fun s62 _=>rn - (intOf s62).toNat)
    case atStart=>exact ⟨0,by omega,rfl,hide (keepT_zero _ _ _ _),hide (HS.out.up Up.go)⟩
    case round =>
     obtain ⟨k,hk,rfl,HKp,HJ⟩:=hrel
     clear HS
     by_cases hlk:k<rn
     · have hkb:decide ((k:Int)<rn)=true:=by simp;omega
       have hkn:decide (k<rn)=true:=by simp;omega
       obtain ⟨cb,co,o,rfl,hKc,hcw,hco,cc0⟩:=(Ints.at (HI.out.keeps (HJ.out.u.keeps KI))).2.2 k hlk
       obtain ⟨rb,ro,x,rfl,hKr,hrw,hrx,rc0,rc1⟩:=(Rds.at (HR.out.keeps (HJ.out.u.keeps KR))).2.2 k hlk
       have ho:=HCZ2.out o (List.mem_of_getElem? hco)
       obtain ⟨q0,q1,q2⟩:=HJ.out.p.p.c3
       have lq:=HJ.out.p.p.lt
       have HLK:=fun q:Ext=>(HJ.out.p.up ((Up.refl wr).ext q)).look (k:=i) ho.1 ho.2 (by omega) (by omega)
       have HLF:=hide (fun U=>wleft_any (TV o i) x U)
       have hgc:ch.getD k 0=o:=by rw [List.getD,hco];rfl
       have hgr:rs.getD k (0,0)=x:=by rw [List.getD,hrx];rfl
       have hks:=keepT_succ TV ch rs i k
       rw [HKp.out,Bool.true_and,hgc,hgr] at hks
       have hkno:=fun h=>keepT_no (T:=TV) (ch:=ch) (rs:=rs) (i:=i) (k:=k) (by rw [← HN.out.1];exact hlk) h
       rw [hgc,hgr] at hkno
       generalize leftB (TV o i) x=LB at *
       generalize TV o i=V at HLK HLF
       obtain ⟨V1,V2,V3,V4⟩:=V
       obtain ⟨x1,x2⟩:=x
       unfold vwA at HLK HLF
       dsimp only at HLK HLF rc0 rc1
       clear hco hKc hKr hrx ho hgc hgr
       rcases LB with _ | _
       · have HNO:=hide (leftL_no (hkno rfl))
         clear hks hkno
         go_wp2_with fail
         ((first | with_reducible refine wp_region_ext2 (by kernel_rfl) (by kernel_rfl) ?_ | refine wp_region_ext (by kernel_rfl) (by kernel_rfl) ?_);(repeat (go_big_quiet_step ((go_at_call 74;with_reducible exact Gives.inRegion (HLF.out _)))));refine wpQuiet_nil ?_;intro _ hw';obtain ⟨_,hw''⟩:=hw';subst hw'')
         go_wp2_with fail
         go_roundw
         case rel=>exact ⟨i+1,by omega,by go_num,hide (by rw [HNO.out];exact HJ.out.up Up.go)⟩
         case measure=>simp [intOf];omega
       · have HYS:=hide hks
         clear hks hkno
         go_wp2_with fail
         ((first | with_reducible refine wp_region_ext2 (by kernel_rfl) (by kernel_rfl) ?_ | refine wp_region_ext (by kernel_rfl) (by kernel_rfl) ?_);(repeat (go_big_quiet_step ((go_at_call 74;with_reducible exact Gives.inRegion (HLF.out _)))));refine wpQuiet_nil ?_;intro _ hw';obtain ⟨_,hw''⟩:=hw';subst hw'')
         go_wp2_with fail
         go_roundw
         case rel=>exact ⟨k+1,by omega,by go_num,HYS,hide (HJ.out.up Up.go)⟩
         case measure=>simp [intOf];omega
     · have hkb:decide ((k:Int)<rn)=false:=by simp;omega
       have hkn:decide (k<rn)=false:=by simp;omega
       obtain rfl:k=rn:=by omega
       have HYS:=hide (leftL_yes (T:=TV) (ch:=ch) (rs:=rs) (k:=i) (by rw [← HN.out.1];exact HKp.out))
       have hll:=leftL_le TV ch rs i
       have hzz:=HJ.out.z
       have hpl:=HJ.out.p.lt
       go_wp2_with (at_builtin;with_reducible refine stopA rfl ?_)
       refine hide ?_
       refine wpList_pushG elem_int rfl (.tmp 82) (.tmp 84) rfl (w0:=w) (base:=Z) (HJ.out.u.trans Up.go) hzz.1 (Nat.le_trans HJ.out.w (by simp)) rfl (HJ.out.o.up Up.go) (by omega) (by decide) (i:Int) rfl (Box.mk (by simp)) ?_
       intro g cap W' hu ho hbx
       have HJ2:=hide (show LfS w Z W' PB MB oa on oc bn TV (.slice (some ⟨g,0,none⟩) ((leftL TV ch rs i).length+1) cap) (leftL TV ch rs (i+1)) from ⟨hu,(HJ.out.p.up Up.go).grown hbx (fun e=>by have:=HJ.out.o.lt _ e;omega) (fun e=>by have:=HJ.out.o.lt _ e;omega),by rw [HYS.out];exact ho,hzz,Nat.le_trans HJ.out.w (Nat.le_trans (by simp) hbx.size)⟩)
       clear hu ho hbx hpl HJ HYS HKp
       go_wp2
       go_roundw
       case rel=>exact ⟨i+1,by omega,by go_num,HJ2⟩
       case measure=>simp [intOf];omega
  · have hib:decide ((i:Int)<bn)=false:=by simp;omega
    have hin:decide (i<bn)=false:=by simp;omega
    obtain rfl:i=bn:=by omega
    have hll:=leftL_le TV ch rs i
    obtain ⟨va,vc,hv⟩:=HS.out.o.form
    have HE2:=hide (GivesInts.fin (y:=.int .i64 0) HS.out.u ((hv▸HS.out.o.lies (by omega)).mono fun b _ hb=>Nat.le_trans HS.out.z.1 hb))
    go_wp2
    exact bodyPost_ret (v:=.tuple #[u19,.int .i64 0]) (by simp [results,Tryz.results31,go_sem]) rfl (by rw [hv];exact HE2.out)
def bitB (x:Int) (i:Nat):Bool:=decide (x / 2^i % 2=1)
def chL (x:Int) (k:Nat):List Int:=((List.range k).filter (bitB x)).map fun (i:Nat)=>(i:Int)
theorem chL_yes {x:Int} {k:Nat} (h:bitB x k=true):chL x (k+1)=chL x k++[(k:Int)]:=by
 unfold chL
 rw [List.range_succ,List.filter_append,List.map_append]
 simp [h]
theorem chL_no {x:Int} {k:Nat} (h:bitB x k=false):chL x (k+1)=chL x k:=by
 unfold chL
 rw [List.range_succ,List.filter_append,List.map_append]
 simp [h]
theorem chL_le (x:Int) (k:Nat):(chL x k).length≤k:=by
 unfold chL
 rw [List.length_map]
 have:=List.length_filter_le (bitB x) (List.range k)
 simpa using this
theorem chosen_any (x:Int) {n:Nat} (hn:n≤60) (w:World):Calls Tryz.prog 14 #[.int .i64 x,.int .i64 n] w fun e W=>∃ (a:Option Addr) (m c:Nat) (p:Ext),e=.returned (.slice a m c)∧Lst TInt (fun q=>w.heap.size≤q) W (.slice a m c) (chL x n)∧W=ext w p:=by
 go_enter Tryz.func14,Tryz.ntmps14
 go_wp2_with fail
 go_loopw [5,6] (fun s5 s6 wr=>∃ k:Nat,k≤n∧s6=.int .i64 k∧Hid (Up w wr∧Own TInt 3 w.heap.size wr s5 (chL x k))) (fun _ s6 _=>n - (intOf s6).toNat)
 case atStart=>exact ⟨0,by omega,rfl,hide ⟨Up.go,Own.nil _ _ _ _⟩⟩
 case round =>
  obtain ⟨k,hk,rfl,HI⟩:=hrel
  by_cases hlt:k<n
  · have hkb:decide ((k:Int)<n)=true:=by simp;omega
    have hkn:decide (k<n)=true:=by simp;omega
    have e1:=and_one_i64 (x / 2^k)
    have hyes:=chL_yes (x:=x) (k:=k)
    have hno:=chL_no (x:=x) (k:=k)
    unfold bitB at hyes hno
    have hle:=chL_le x k
    obtain ⟨va,vc,hv⟩:=HI.out.2.form
    generalize x / 2^k % 2=m at *
    have HYN:=hide (And.intro hyes hno)
    clear hyes hno
    by_cases hm:m=1
    · have hm1:(m==1)=true:=by simpa using hm
      have HY:=hide (HYN.out.1 (decide_eq_true hm))
      clear hm HYN
      go_wp2_with (at_builtin;with_reducible refine stopA rfl ?_)
      refine hide ?_
      refine wpList_pushG elem_int rfl (.tmp 18) (.tmp 20) rfl (w0:=w) (base:=w.heap.size) (HI.out.1.trans Up.go) (Nat.le_refl _) (Nat.le_trans HI.out.1.below.size (by simp)) rfl (HI.out.2.up Up.go) (by omega) (by decide) (k:Int) rfl (Box.mk (by simp)) ?_
      intro g cap W' hu ho _
      have HJ:=hide (show Up w W'∧Own TInt 3 w.heap.size W' (.slice (some ⟨g,0,none⟩) ((chL x k).length+1) cap) (chL x (k+1)) from ⟨hu,by rw [HY.out];exact ho⟩)
      clear hu ho HI HY
      go_wp2_with fail
      go_roundw
      case rel=>exact ⟨k+1,by omega,by go_num,HJ⟩
      case measure=>simp [intOf];omega
    · have hm1:(m==1)=false:=by simpa using hm
      have HY:=hide (HYN.out.2 (decide_eq_false hm))
      clear hm HYN
      go_wp2_with fail
      go_roundw
      case rel=>exact ⟨k+1,by omega,by go_num,hide (by rw [HY.out];exact HI.out)⟩
      case measure=>simp [intOf];omega
  · have hkb:decide ((k:Int)<n)=false:=by simp;omega
    have hkn:decide (k<n)=false:=by simp;omega
    obtain rfl:k=n:=by omega
    obtain ⟨va,vc,hv⟩:=HI.out.2.form
    have hle:=chL_le x k
    have HL:=hide ((hv▸HI.out.2.lies (by omega)):Lst TInt (fun b=>w.heap.size≤b) _ (.slice va (chL x k).length vc) (chL x k))
    have HU:=hide HI.out.1
    clear HI
    subst hv
    go_wp2_with fail
    obtain ⟨p,hp⟩:=HU.out
    exact bodyPost_ret (v:=.slice va (chL x k).length vc) (by simp [results,Tryz.results14,go_sem]) rfl ⟨_,_,_,p,rfl,HL.out,hp⟩
theorem mem_chL {x:Int} {k:Nat} {o:Int}:o∈chL x k↔∃ i:Nat,i<k∧bitB x i=true∧o=i:=by
 unfold chL
 simp only [List.mem_map,List.mem_filter,List.mem_range]
 constructor
 · rintro ⟨i,⟨h1,h2⟩,rfl⟩;exact ⟨i,h1,h2,rfl⟩
 · rintro ⟨i,h1,h2,rfl⟩;exact ⟨i,⟨h1,h2⟩,rfl⟩
theorem chL_sorted (x:Int) (k:Nat):(chL x k).Pairwise (·<·):=by
 unfold chL
 refine List.Pairwise.map _ (fun a b h=>by simpa using h) (List.Pairwise.filter _ List.pairwise_lt_range)
theorem chE_chL (x:Int) (k:Nat):chE k (chL x k)=0:=by
 refine chE_ok fun i hi=>?_
 have h1:(chL x k).getD i 0=(chL x k)[i]:=by rw [List.getD_eq_getElem?_getD,List.getElem?_eq_getElem hi];rfl
 obtain ⟨q,hq,_,e⟩:=mem_chL.1 (List.getElem_mem hi)
 unfold chBad
 rw [h1,e]
 simp only [Bool.or_eq_false_iff,Bool.and_eq_false_iff,decide_eq_false_iff_not]
 refine ⟨⟨by omega,by omega⟩,?_⟩
 by_cases h0:0<i
 · refine .inr ?_
   have h2:(chL x k).getD (i - 1) 0=(chL x k)[i - 1]:=by rw [List.getD_eq_getElem?_getD,List.getElem?_eq_getElem (by omega)];rfl
   have h3:=List.pairwise_iff_getElem.1 (chL_sorted x k) (i - 1) i (by omega) hi (by omega)
   rw [h2]
   rw [e] at h3
   omega
 · exact .inl h0
def Rch (su:Int→Bool):Nat→List Int→List Int→Prop
 | 0,ch,c=>c=ch
 | f+1,ch,c=>c=ch∨∃ i,i<ch.length∧su (ch.getD i 0)=false∧Rch su f (ch.eraseIdx i) c
theorem Rch.more {su:Int→Bool}:∀ {f:Nat} {ch c:List Int},Rch su f ch c→Rch su (f+1) ch c
 | 0,_,_,h=>.inl h
 | _+1,_,_,.inl h=>.inl h
 | _+1,_,_,.inr ⟨i,h1,h2,h3⟩=>.inr ⟨i,h1,h2,h3.more⟩
theorem Rch.surer {su su':Int→Bool} (hs:∀ o,su o=true→su' o=true):∀ {f:Nat} {ch c:List Int},Rch su' f ch c→Rch su f ch c
 | 0,_,_,h=>h
 | _+1,_,_,.inl h=>.inl h
 | f+1,ch,c,.inr ⟨i,h1,h2,h3⟩=>by
  refine .inr ⟨i,h1,?_,h3.surer hs⟩
  cases h:su (ch.getD i 0) with
  | false=>rfl
  | true=>rw [hs _ h] at h2;cases h2
theorem wstepT_le_iff {T:Int→Int→VwD} {su:Int→Bool} {cn f:Nat} {ch:List Int} {m:Nat}:∀ k,wstepT T su cn f ch k≤m↔confT T ch cn cn≤m∧∀ i,i<k→su (ch.getD i 0)=false→worstT T su cn f (ch.eraseIdx i)≤m
 | 0=>by
  rw [wstepT_zero]
  exact ⟨fun h=>⟨h,fun i hi=>absurd hi (by omega)⟩,fun h=>h.1⟩
 | k+1=>by
  rw [wstepT_succ]
  have ih:=wstepT_le_iff (T:=T) (su:=su) (cn:=cn) (f:=f) (ch:=ch) (m:=m) k
  rcases hs:su (ch.getD k 0) with _ | _
  · rw [if_neg (by decide),Nat.max_le,ih]
    constructor
    · rintro ⟨⟨h1,h2⟩,h3⟩
      refine ⟨h1,fun i hi h=>?_⟩
      rcases Nat.lt_or_ge i k with h4 | h4
      · exact h2 i h4 h
      · rw [show i=k by omega];exact h3
    · rintro ⟨h1,h2⟩
      exact ⟨⟨h1,fun i hi h=>h2 i (by omega) h⟩,h2 k (by omega) hs⟩
  · rw [if_pos rfl,ih]
    constructor
    · rintro ⟨h1,h2⟩
      refine ⟨h1,fun i hi h=>?_⟩
      rcases Nat.lt_or_ge i k with h4 | h4
      · exact h2 i h4 h
      · rw [show i=k by omega,hs] at h;cases h
    · rintro ⟨h1,h2⟩
      exact ⟨h1,fun i hi h=>h2 i (by omega) h⟩
theorem worstT_le_iff {T:Int→Int→VwD} {su:Int→Bool} {cn m:Nat}:∀ {f:Nat} {ch:List Int},worstT T su cn f ch≤m↔∀ c,Rch su f ch c→confT T c cn cn≤m
 | 0,ch=>by
  rw [worstT_zero]
  exact ⟨fun h c hc=>by rw [show c=ch from hc];exact h,fun h=>h ch rfl⟩
 | f+1,ch=>by
  rw [wstepT_all,wstepT_le_iff]
  constructor
  · rintro ⟨h1,h2⟩ c (rfl | ⟨i,h3,h4,h5⟩)
    · exact h1
    · exact worstT_le_iff.1 (h2 i h3 h4) c h5
  · intro h
    exact ⟨h ch (.inl rfl),fun i hi hs=>worstT_le_iff.2 fun c hc=>h c (.inr ⟨i,hi,hs,hc⟩)⟩
theorem mem_erase {l:List Int} {i:Nat} {o:Int} (ho:o∈l) (hne:o≠l.getD i 0):o∈l.eraseIdx i:=by
 obtain ⟨j,hj,rfl⟩:=List.getElem_of_mem ho
 have hji:j≠i:=by
  rintro rfl
  exact hne (by rw [List.getD_eq_getElem?_getD,List.getElem?_eq_getElem hj];rfl)
 exact List.mem_eraseIdx_iff_getElem.2 ⟨j,hj,hji,rfl⟩
theorem not_erase {l:List Int} (hn:l.Nodup) {i:Nat} (hi:i<l.length) {o:Int} (ho:o∈l.eraseIdx i):o∈l∧o≠l.getD i 0:=by
 refine ⟨List.mem_of_mem_eraseIdx ho,?_⟩
 obtain ⟨j,hj,hji,rfl⟩:=List.mem_eraseIdx_iff_getElem.1 ho
 rw [List.getD_eq_getElem?_getD,List.getElem?_eq_getElem hi]
 intro e
 have e':l[j]=l[i]:=e
 have hp:=List.pairwise_iff_getElem.1 hn
 rcases Nat.lt_or_gt_of_ne hji with h | h
 · exact hp j i hj hi h e'
 · exact hp i j hi hj h e'.symm
theorem Rch.less {su:Int→Bool}:∀ {f:Nat} {ch ch' c':List Int},ch.Nodup→(∀ o∈ch,o∈ch')→Rch su f ch' c'→∃ c,Rch su f ch c∧∀ o∈c,o∈c'
 | 0,ch,ch',c',_,h,hr=>⟨ch,rfl,by rw [show c'=ch' from hr];exact h⟩
 | f+1,ch,ch',c',hn,h,.inl hr=>⟨ch,.inl rfl,by rw [hr];exact h⟩
 | f+1,ch,ch',c',hn,h,.inr ⟨i,hi,hs,hr⟩=>by
  by_cases ho:ch'.getD i 0∈ch
  · obtain ⟨j,hj,e⟩:=List.getElem_of_mem ho
    have ej:ch.getD j 0=ch'.getD i 0:=by rw [List.getD_eq_getElem?_getD,List.getElem?_eq_getElem hj];exact e
    obtain ⟨c,h1,h2⟩:=Rch.less (f:=f) (ch:=ch.eraseIdx j) (hn.eraseIdx j) (fun o hoo=>by
     obtain ⟨h3,h4⟩:=not_erase hn hj hoo
     exact mem_erase (h o h3) (by rw [← ej];exact h4)) hr
    exact ⟨c,.inr ⟨j,hj,by rw [ej];exact hs,h1⟩,h2⟩
  · obtain ⟨c,h1,h2⟩:=Rch.less (f:=f) hn (fun o hoo=>mem_erase (h o hoo) (fun e=>ho (e▸hoo))) hr
    exact ⟨c,h1.more,h2⟩
/-! ### an offer made sure -/
def sureAt (l:List OffD) (i:Nat):List OffD:=l.modify i fun o=>{ o with sure:=true }
end Go.Proofs.YteafglginnonnaaGreat
