/- Several texts in one. -/
import Derived.Test.YteafglginnonnaaGreatRootR
import Derived.Test.YteafglginnonnaaGreatWatchJ
import Derived.Test.YteafglginnonnaaGreatW6b
/- Offers in memory; sets copied and compared; which watches are valid, in plain Lean. Conditions: what lies in memory. -/
set_option linter.unusedVariables false
set_option linter.unusedSimpArgs false
namespace Go.Proofs.YteafglginnonnaaGreat
open Go.RowKit Go.Shelf
def offL (o:OffD):List Value:=[.int .i64 o.kind,.int .i64 o.station,.int .i64 o.catalog,.int .i64 o.tick,.int .i64 o.dx,.int .i64 o.dy,.int .i64 o.err,.int .i64 o.far,.int .i64 o.wide,.int .i64 o.cost,.bool o.sure]
def TOff:Rw OffD:=⟨11,offL,by decide,fun _=>rfl,fun _ u hu=>by unfold offL at hu;simp only [List.mem_cons,List.not_mem_nil,or_false] at hu;rcases hu with rfl | rfl | rfl | rfl | rfl | rfl | rfl | rfl | rfl | rfl | rfl <;> rfl⟩
theorem Offs.at {K:Nat→Prop} {w:World} {a:Option Addr} {n c:Nat} {l:List OffD} (h:Lst TOff K w (.slice a n c) l):n=l.length∧n≤9223372036854775807 ∧
 ∀ i,i<n→∃ b o p,a=some ⟨b,o,none⟩∧K b∧b<w.heap.size∧l[i]?=some p∧w.cell? ⟨b,o+i*11,none⟩=some (.int .i64 p.kind)∧w.cell? ⟨b,o+i*11+1,none⟩=some (.int .i64 p.station)∧w.cell? ⟨b,o+i*11+2,none⟩=some (.int .i64 p.catalog)∧w.cell? ⟨b,o+i*11+3,none⟩=some (.int .i64 p.tick)∧w.cell? ⟨b,o+i*11+4,none⟩=some (.int .i64 p.dx)∧w.cell? ⟨b,o+i*11+5,none⟩=some (.int .i64 p.dy)∧w.cell? ⟨b,o+i*11+6,none⟩=some (.int .i64 p.err)∧w.cell? ⟨b,o+i*11+7,none⟩=some (.int .i64 p.far)∧w.cell? ⟨b,o+i*11+8,none⟩=some (.int .i64 p.wide)∧w.cell? ⟨b,o+i*11+9,none⟩=some (.int .i64 p.cost)∧w.cell? ⟨b,o+i*11+10,none⟩=some (.bool p.sure):=by
 obtain ⟨a',c',h1,h2,h3⟩:=h
 simp at h1
 obtain ⟨rfl,rfl,rfl⟩:=h1
 refine ⟨rfl,h2,fun i hi=>?_⟩
 obtain ⟨b,o,rfl,hK,hb,hc⟩:=h3 (by intro e;subst e;simp at hi)
 obtain ⟨vs,rfl,_,hx⟩:=hc i l[i] (List.getElem?_eq_getElem hi)
 exact ⟨b,o,l[i],rfl,hK,hb,List.getElem?_eq_getElem hi,hx 0 _ rfl,hx 1 _ rfl,hx 2 _ rfl,hx 3 _ rfl,hx 4 _ rfl,hx 5 _ rfl,hx 6 _ rfl,hx 7 _ rfl,hx 8 _ rfl,hx 9 _ rfl,hx 10 _ rfl⟩
def offW (s:SkyD) (d:DriftD) (t:Int) (set:List BoxD) (o:OffD):Int :=
 if offE s o=0 then (if withinB o.tick t (t+400)=true then (propagateV s.bodies s.home d t (o.tick - t) set).2 else 2) else offE s o
def watchE (s:SkyD) (d:DriftD) (t:Int) (set:List BoxD) (offers:List OffD):Int :=
 if skyE s=0 then
  (if (propagateV s.bodies s.home d t 0 set).2=0 then (if 100<set.length∨10<offers.length then 8 else firstE (offW s d t set) offers)
   else (propagateV s.bodies s.home d t 0 set).2)
 else skyE s
theorem prop_tick {bs:List Bod} {home:Int} {d:DriftD} {t m:Int} {l:List BoxD} (h:(propagateV bs home d t m l).2=0):worldDE bs home d=0∧0≤t∧t≤1073741824∧l.length≤512∧(∀ b∈l,BOk b):=by
 unfold propagateV at h
 by_cases he:propE bs home d t m l=0
 · obtain ⟨h1,h2,h3⟩:=propE_zero he
   obtain ⟨h4,h5⟩:=setE_zero h3
   exact ⟨h1,by omega,by omega,h4,h5⟩
 · rw [if_neg he] at h;exact absurd h he
@[go_sem] theorem box_neq (a:BoxD) (w:World):(binOp .neq 69 (.agg (boxA a)) (.agg (boxA a))).run Tryz.prog w=.ok (.bool false) w:=by
 obtain ⟨x0,x1,y0,y1,u0,u1,v0,v1⟩:=a
 simp [go_sem]
set_option maxRecDepth 100000 in
set_option maxHeartbeats 20000000 in
theorem wwatch_any {K:Nat→Prop} {w:World} {a sa ca:Option Addr} {n c sn sc cn cc:Nat} {s:SkyD} (hL:SkyL K w a n c sa sn sc ca cn cc s) (d:DriftD) (t:Int) {KB:Nat→Prop} {ba:Option Addr} {bn bc:Nat} {set:List BoxD} (hB:Boxes KB w (.slice ba bn bc) set) {KO:Nat→Prop} {oa:Option Addr} {on oc:Nat} {offers:List OffD} (hO:Lst TOff KO w (.slice oa on oc) offers):Gives Tryz.prog 10 #[.agg #[.slice a n c,.int .i64 s.home,.slice sa sn sc,.slice ca cn cc],.agg #[.int .i64 (d.l.1),.int .i64 (d.l.2),.int .i64 (d.h.1),.int .i64 (d.h.2),.int .i64 (d.g)],.int .i64 t,.slice ba bn bc,.slice oa on oc] w (.int .i64 (watchE s d t set offers)):=by
 have HC:=hide (fun W (hu:Up w W)=>skcheck_any (hL.up hu).b (hL.up hu).h (hL.up hu).st (hL.up hu).ca)
 have HP:=hide (fun (m:Int) (_:-9223372036854775808≤m∧m≤9223372036854775807) W (hu:Up w W)=>opropagate_any (hL.up hu).b (hL.up hu).h d (hB.keeps (hu.keeps KB)) t m)
 have HT:=hide (fun (m:Int) (h:(propagateV s.bodies s.home d t m set).2=0)=>prop_tick h)
 have HOF:=hide (fun (_:skyE s=0) (o:OffD) W (hu:Up w W)=>wcheck_any (hL.up hu).b (hL.up hu).h (hL.up hu).st (hL.up hu).ca o)
 have HI:=hide (fun lo W=>wwithin_any lo t (t+400) W)
 have HO:=hide hO
 have hon:=(Offs.at hO).1
 have hbn:=(Boxes.at hB).1
 have hom:=(Offs.at hO).2.1
 unfold watchE
 rw [← hbn,← hon]
 have HNN:=hide hon
 clear hbn hon
 generalize hE:skyE s=E at *
 have e0:∀ o,offW s d t set o=(if offE s o=0 then (if withinB o.tick t (t+400)=true then (propagateV s.bodies s.home d t (o.tick - t) set).2 else 2) else offE s o):=fun o=>rfl
 have hof:∀ o,offE s o=0→0≤o.tick∧o.tick≤1073741824:=fun o h=>by have:=(offE_zero h).2.2.1;simpa [withinB] using this
 generalize offW s d t set=OW at *
 generalize offE s=OE at *
 obtain ⟨PL,hPL⟩:∃ f:Int→List BoxD,f=fun m=>(propagateV s.bodies s.home d t m set).1:=⟨_,rfl⟩
 obtain ⟨PE,hPE⟩:∃ f:Int→Int,f=fun m=>(propagateV s.bodies s.home d t m set).2:=⟨_,rfl⟩
 have f1:∀ m,(propagateV s.bodies s.home d t m set).1=PL m:=fun m=>by rw [hPL]
 have f2:∀ m,(propagateV s.bodies s.home d t m set).2=PE m:=fun m=>by rw [hPE]
 simp only [f1,f2] at HP HT e0 ⊢
 clear f1 f2 hPL hPE
 have HW:=hide (And.intro e0 hof)
 clear e0 hof hB hO
 by_cases hs:E=0
 rotate_left
 · rw [if_neg hs]
   have heb:(E != 0)=true:=by simpa using hs
   generalize s.home=home at *
   clear hL hE HOF hs
   (unfold Gives;go_enter Tryz.func10,Tryz.ntmps10)
   go_wp2_with fail
   go_at_call 42
   refine forgetK (fun wr=>Up w wr∧Box wr w.heap.size #[.slice a n c,.int .i64 home,.slice sa sn sc,.slice ca cn cc] 29∧Box wr (w.heap.size+1) #[.int .i64 (d.l.1),.int .i64 (d.l.2),.int .i64 (d.h.1),.int .i64 (d.h.2),.int .i64 (d.g)] 33) ⟨Up.go,Box.go,Box.go⟩ ?_
   rintro V0 ⟨hu,b0,b1⟩
   have HB0:=hide (And.intro hu (And.intro b0 b1))
   clear hu b0 b1
   obtain ⟨s0,s1,s2,s3⟩:=(HB0.out.2.1).c4
   have ls:=(HB0.out.2.1).lt
   obtain ⟨dd0,dd1,dd2,dd3,dd4⟩:=(HB0.out.2.2).c5
   have ldd:=(HB0.out.2.2).lt
   refine (HC.out _ (Up.viz HB0.out.1)).mono ?_
   intro p1
   go_wp2
   go_ret
   exact ⟨rfl,(Up.viz HB0.out.1)⟩
 rw [if_pos hs]
 subst hs
 have HOF2:=hide (HOF.out rfl)
 generalize s.home=home at *
 clear hL hE HOF
 by_cases h0:PE 0=0
 rotate_left
 · rw [if_neg h0]
   have heb:(PE 0 != 0)=true:=by simpa using h0
   clear h0
   (unfold Gives;go_enter Tryz.func10,Tryz.ntmps10)
   go_wp2_with fail
   go_at_call 42
   refine forgetK (fun wr=>Up w wr∧Box wr w.heap.size #[.slice a n c,.int .i64 home,.slice sa sn sc,.slice ca cn cc] 29∧Box wr (w.heap.size+1) #[.int .i64 (d.l.1),.int .i64 (d.l.2),.int .i64 (d.h.1),.int .i64 (d.h.2),.int .i64 (d.g)] 33) ⟨Up.go,Box.go,Box.go⟩ ?_
   rintro V0 ⟨hu,b0,b1⟩
   have HB0:=hide (And.intro hu (And.intro b0 b1))
   clear hu b0 b1
   obtain ⟨s0,s1,s2,s3⟩:=(HB0.out.2.1).c4
   have ls:=(HB0.out.2.1).lt
   obtain ⟨dd0,dd1,dd2,dd3,dd4⟩:=(HB0.out.2.2).c5
   have ldd:=(HB0.out.2.2).lt
   refine (HC.out _ (Up.viz HB0.out.1)).mono ?_
   intro p1
   go_wp2_with fail
   go_at_call 43
   refine (HP.out 0 (by omega) _ (Up.viz HB0.out.1)).mono ?_
   rintro _ _ ⟨a0,n0,c0,p2,rfl,hbx,rfl⟩
   clear hbx
   go_wp2
   go_ret
   exact ⟨rfl,(Up.viz HB0.out.1)⟩
 rw [if_pos h0]
 have ht:=HT.out 0 h0
 have htt:0≤t∧t≤1073741824:=⟨ht.2.1,ht.2.2.1⟩
 clear ht
 by_cases h1:100<bn
 · rw [if_pos (.inl (by omega))]
   have d1:decide ((100:Int)<bn)=true:=by simp;omega
   (unfold Gives;go_enter Tryz.func10,Tryz.ntmps10)
   go_wp2_with fail
   go_at_call 42
   refine forgetK (fun wr=>Up w wr∧Box wr w.heap.size #[.slice a n c,.int .i64 home,.slice sa sn sc,.slice ca cn cc] 29∧Box wr (w.heap.size+1) #[.int .i64 (d.l.1),.int .i64 (d.l.2),.int .i64 (d.h.1),.int .i64 (d.h.2),.int .i64 (d.g)] 33) ⟨Up.go,Box.go,Box.go⟩ ?_
   rintro V0 ⟨hu,b0,b1⟩
   have HB0:=hide (And.intro hu (And.intro b0 b1))
   clear hu b0 b1
   obtain ⟨s0,s1,s2,s3⟩:=(HB0.out.2.1).c4
   have ls:=(HB0.out.2.1).lt
   obtain ⟨dd0,dd1,dd2,dd3,dd4⟩:=(HB0.out.2.2).c5
   have ldd:=(HB0.out.2.2).lt
   refine (HC.out _ (Up.viz HB0.out.1)).mono ?_
   intro p1
   go_wp2_with fail
   go_at_call 43
   refine (HP.out 0 (by omega) _ (Up.viz HB0.out.1)).mono ?_
   rintro _ _ ⟨a0,n0,c0,p2,rfl,hbx,rfl⟩
   clear hbx
   rw [h0]
   go_wp2
   go_ret
   exact ⟨rfl,(Up.viz HB0.out.1)⟩
 have d1:decide ((100:Int)<bn)=false:=by simp;omega
 by_cases h2:10<on
 · rw [if_pos (.inr (by omega))]
   have d2:decide ((10:Int)<on)=true:=by simp;omega
   (unfold Gives;go_enter Tryz.func10,Tryz.ntmps10)
   go_wp2_with fail
   go_at_call 42
   refine forgetK (fun wr=>Up w wr∧Box wr w.heap.size #[.slice a n c,.int .i64 home,.slice sa sn sc,.slice ca cn cc] 29∧Box wr (w.heap.size+1) #[.int .i64 (d.l.1),.int .i64 (d.l.2),.int .i64 (d.h.1),.int .i64 (d.h.2),.int .i64 (d.g)] 33) ⟨Up.go,Box.go,Box.go⟩ ?_
   rintro V0 ⟨hu,b0,b1⟩
   have HB0:=hide (And.intro hu (And.intro b0 b1))
   clear hu b0 b1
   obtain ⟨s0,s1,s2,s3⟩:=(HB0.out.2.1).c4
   have ls:=(HB0.out.2.1).lt
   obtain ⟨dd0,dd1,dd2,dd3,dd4⟩:=(HB0.out.2.2).c5
   have ldd:=(HB0.out.2.2).lt
   refine (HC.out _ (Up.viz HB0.out.1)).mono ?_
   intro p1
   go_wp2_with fail
   go_at_call 43
   refine (HP.out 0 (by omega) _ (Up.viz HB0.out.1)).mono ?_
   rintro _ _ ⟨a0,n0,c0,p2,rfl,hbx,rfl⟩
   clear hbx
   rw [h0]
   go_wp2
   go_ret
   exact ⟨rfl,(Up.viz HB0.out.1)⟩
 have d2:decide ((10:Int)<on)=false:=by simp;omega
 rw [if_neg (by omega)]
 (unfold Gives;go_enter Tryz.func10,Tryz.ntmps10)
 go_wp2_with fail
 go_at_call 42
 refine forgetK (fun wr=>Up w wr∧Box wr w.heap.size #[.slice a n c,.int .i64 home,.slice sa sn sc,.slice ca cn cc] 29∧Box wr (w.heap.size+1) #[.int .i64 (d.l.1),.int .i64 (d.l.2),.int .i64 (d.h.1),.int .i64 (d.h.2),.int .i64 (d.g)] 33) ⟨Up.go,Box.go,Box.go⟩ ?_
 rintro V0 ⟨hu,b0,b1⟩
 have HB0:=hide (And.intro hu (And.intro b0 b1))
 clear hu b0 b1
 obtain ⟨s0,s1,s2,s3⟩:=(HB0.out.2.1).c4
 have ls:=(HB0.out.2.1).lt
 obtain ⟨dd0,dd1,dd2,dd3,dd4⟩:=(HB0.out.2.2).c5
 have ldd:=(HB0.out.2.2).lt
 refine (HC.out _ (Up.viz HB0.out.1)).mono ?_
 intro p1
 go_wp2_with fail
 go_at_call 43
 refine (HP.out 0 (by omega) _ (Up.viz HB0.out.1)).mono ?_
 rintro _ _ ⟨a0,n0,c0,p2,rfl,hbx,rfl⟩
 clear hbx
 rw [h0]
 go_wp2_with fail
 refine forgetW (fun wr=>Up w wr∧Box wr w.heap.size #[.slice a n c,.int .i64 home,.slice sa sn sc,.slice ca cn cc] 29∧Box wr (w.heap.size+1) #[.int .i64 (d.l.1),.int .i64 (d.l.2),.int .i64 (d.h.1),.int .i64 (d.h.2),.int .i64 (d.g)] 33) ⟨(Up.viz HB0.out.1),(Box.viz HB0.out.2.1),(Box.viz HB0.out.2.2)⟩ ?_
 intro V9 h9
 have H0:=hide (And.intro h9 (show noneYet (fun o=>OW o != 0) offers 0 from fun i p hi _=>by omega))
 clear h9 HB0 s0 s1 s2 s3 ls dd0 dd1 dd2 dd3 dd4 ldd
 go_loopw [46] (fun sx wr=>∃ k:Nat,k≤on∧sx=.int .i64 k∧Hid ((Up w wr∧Box wr w.heap.size #[.slice a n c,.int .i64 home,.slice sa sn sc,.slice ca cn cc] 29∧Box wr (w.heap.size+1) #[.int .i64 (d.l.1),.int .i64 (d.l.2),.int .i64 (d.h.1),.int .i64 (d.h.2),.int .i64 (d.g)] 33)∧noneYet (fun o=>OW o != 0) offers k)) (fun sx _=>on - (intOf sx).toNat)
 case atStart=>exact ⟨0,by omega,rfl,H0⟩
 case round =>
  obtain ⟨k,hk,rfl,HJ⟩:=hrel
  clear H0
  obtain ⟨s0,s1,s2,s3⟩:=(HJ.out.1.2.1).c4
  have ls:=(HJ.out.1.2.1).lt
  obtain ⟨dd0,dd1,dd2,dd3,dd4⟩:=(HJ.out.1.2.2).c5
  have ldd:=(HJ.out.1.2.2).lt
  by_cases hlt:k<on
  · have hkb:decide ((k:Int)<on)=true:=by simp;omega
    have hkn:decide (k<on)=true:=by simp;omega
    obtain ⟨ob,oo,o,rfl,_,how,hp,f0,f1,f2,f3,f4,f5,f6,f7,f8,f9,f10⟩:=(Offs.at (HO.out.keeps (HJ.out.1.1.keeps KO))).2.2 k hlt
    have HPP:=hide hp
    have hwo:=HW.out.1 o
    clear hp
    have HOO:=hide (HOF2.out o)
    have HT2:=hide (HW.out.2 o)
    by_cases g0:OE o=0
    rotate_left
    · have hgb:(OE o != 0)=true:=by simpa using g0
      have HF:=hide (show firstE OW offers=OE o by rw [firstE_found HJ.out.2 HPP.out (by rw [hwo,if_neg g0];exact g0),hwo,if_neg g0])
      generalize OE o=E at *
      clear hwo g0
      go_wp2_with fail
      go_at_call 44
      refine (HOO.out _ (Up.viz HJ.out.1.1)).mono ?_
      intro p1
      go_wp2
      go_ret
      exact ⟨ret_int (by rw [HF.out]),(Up.viz HJ.out.1.1)⟩
    have tk:=HT2.out g0
    rw [if_pos g0] at hwo
    rw [g0] at HOO
    by_cases g1:withinB o.tick t (t+400)=true
    rotate_left
    · have HIo:=hide (HI.out o.tick)
      rw [show withinB o.tick t (t+400)=false by simpa using g1] at HIo
      have HF:=hide (show firstE OW offers=2 by rw [firstE_found HJ.out.2 HPP.out (by rw [hwo,if_neg g1];decide),hwo,if_neg g1])
      clear hwo g1
      go_wp2_with fail
      go_at_call 44
      refine (HOO.out _ (Up.viz HJ.out.1.1)).mono ?_
      intro p1
      go_wp2_with (go_at_call 45;(with_reducible refine (HIo.out _).mono ?_);intro _)
      go_ret
      exact ⟨ret_int (by rw [HF.out]),(Up.viz HJ.out.1.1)⟩
    rw [if_pos g1] at hwo
    have HIo:=hide (HI.out o.tick)
    rw [g1] at HIo
    clear g1
    have HPo:=hide (HP.out (o.tick - t) (by omega))
    obtain ⟨m,hm⟩:∃ m,o.tick - t=m:=⟨_,rfl⟩
    by_cases g2:PE (o.tick - t)=0
    · rw [g2] at HPo hwo
      have HF:=hide (HJ.out.2.succ HPP.out (show (OW o != 0)=false by rw [hwo];rfl))
      clear hwo g2 hm
      go_wp2_with fail
      go_at_call 44
      refine (HOO.out _ (Up.viz HJ.out.1.1)).mono ?_
      intro p1
      go_wp2_with (go_at_call 45;(with_reducible refine (HIo.out _).mono ?_);intro _)
      go_at_call 43
      refine (HPo.out _ (Up.viz HJ.out.1.1)).mono ?_
      rintro _ _ ⟨a1,n1,c1,p3,rfl,hbx,rfl⟩
      clear hbx
      go_wp2_with fail
      go_roundw
      case rel=>exact ⟨k+1,by omega,by go_num,hide ⟨⟨(Up.viz HJ.out.1.1),(Box.viz HJ.out.1.2.1),(Box.viz HJ.out.1.2.2)⟩,HF.out⟩⟩
      case measure=>simp [intOf];omega
    · have hgb:(PE (o.tick - t) != 0)=true:=by simpa using g2
      have HF:=hide (show firstE OW offers=PE (o.tick - t) by rw [firstE_found HJ.out.2 HPP.out (by rw [hwo];exact g2),hwo])
      clear hwo g2 hm
      go_wp2_with fail
      go_at_call 44
      refine (HOO.out _ (Up.viz HJ.out.1.1)).mono ?_
      intro p1
      go_wp2_with (go_at_call 45;(with_reducible refine (HIo.out _).mono ?_);intro _)
      go_at_call 43
      refine (HPo.out _ (Up.viz HJ.out.1.1)).mono ?_
      rintro _ _ ⟨a1,n1,c1,p3,rfl,hbx,rfl⟩
      clear hbx
      go_wp2
      go_ret
      exact ⟨ret_int (by rw [HF.out]),(Up.viz HJ.out.1.1)⟩
  · have hkb:decide ((k:Int)<on)=false:=by simp;omega
    have hkn:decide (k<on)=false:=by simp;omega
    have HF:=hide (show firstE OW offers=0 from firstE_none (by have:=HJ.out.2;rwa [show k=offers.length by have:=HNN.out;omega] at this))
    go_wp2
    go_ret
    exact ⟨ret_int (by rw [HF.out]),(Up.viz HJ.out.1.1)⟩
end Go.Proofs.YteafglginnonnaaGreat
