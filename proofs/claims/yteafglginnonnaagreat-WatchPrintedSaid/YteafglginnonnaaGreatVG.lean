/- Several texts in one. -/
import Derived.Test.YteafglginnonnaaGreatSuc
import Derived.Test.YteafglginnonnaaGreatPoint
import Derived.Test.YteafglginnonnaaGreatWst
import Derived.Test.YteafglginnonnaaGreatW6b
import Derived.Test.YteafglginnonnaaGreatVO
/- bolidekit.TruthOf: a list of states made of numbers. Conditions: what lies in memory. -/
set_option linter.unusedVariables false
set_option linter.unusedSimpArgs false
namespace Go.Proofs.YteafglginnonnaaGreat
set_option maxHeartbeats 8000000
set_option maxRecDepth 100000
open Go.RowKit Go.Shelf
theorem Tryz.infost:(Tryz.prog.info? 37).map (fun i=>(i.zero,i.size,i.bytes))=some (some (.agg #[.int .i64 (0),.int .i64 (0),.int .i64 (0),.int .i64 (0)]),4,32):=by kernel_rfl
theorem elem_st:ElemOk Tryz.prog TSt 77 37 32:=by
 obtain ⟨i,h1,h2,h3,h4⟩:=info_parts Tryz.infost
 exact ⟨Tryz.underlying77,i,_,h1,h2,h3,h4,rfl⟩
theorem succ_at {w:World} {sl:Value} (hN:Nums w sl) {B:Nat} (hB:w.heap.size≤B) {K:Nat→Prop} {a:Option Addr} {n c:Nat} {bs:List Bod} {home:Int} (hh:I64 home) (d:DriftD) (k x y u v:Int) {t m:Int} {W V:World} (hu:Up w W) (hb:Box W B #[sl,.int .i64 t] 98) (hW:RingAt W B m V) (hl:Bods K V (.slice a n c) bs) (hm:m+8≤100000) :
 Calls Tryz.prog 64 #[.pointer (some ⟨B,0,none⟩),.agg #[.slice a n c,.int .i64 home],.agg #[.int .i64 (d.l.1),.int .i64 (d.l.2),.int .i64 (d.h.1),.int .i64 (d.h.2),.int .i64 (d.g)],.int .i64 k,.agg #[.int .i64 (x),.int .i64 (y),.int .i64 (u),.int .i64 (v)]] V fun e W'=>∃ x' y' u' v':Int,e=.returned (.agg #[.int .i64 (x'),.int .i64 (y'),.int .i64 (u'),.int .i64 (v')])∧RingAt W B (m+8) W'∧V.grownBy W' (some B):=by
 obtain ⟨t1,h0,h1,hbW⟩:=hW.box hb
 refine (succ_any hN hB hh d k x y u v (hW.up hu hB) hbW hl h0 (by omega)).mono ?_
 rintro e W' ⟨_,t',p',he,⟨x',y',u',v',rfl⟩,h3,h4,rfl⟩
 exact ⟨x',y',u',v',he,hW.called hb.lt h3 (by omega) p',grown_up (grown_set (grown_refl _ _) _ _) ((Up.refl _).ext _)⟩
structure TrS (W:World) (B:Nat) (V:World) (a:Option Addr) (n c:Nat) (home:Int) (d:DriftD) (nn:Int) (wr:World) (v:Value) (l:List StD) (x y u q:Int):Prop where
 r:RingAt W B nn wr
 k:Keeps (fun b=>b≠B∧b<V.heap.size) V wr
 w:Box wr V.heap.size #[.slice a n c,.int .i64 home] 25
 d:Box wr (V.heap.size+1) #[.int .i64 (d.l.1),.int .i64 (d.l.2),.int .i64 (d.h.1),.int .i64 (d.h.2),.int .i64 (d.g)] 33
 s:Box wr (V.heap.size+1+1) #[.int .i64 (x),.int .i64 (y),.int .i64 (u),.int .i64 (q)] 37
 o:Own TSt 37 (V.heap.size+1+1+1) wr v l
theorem TrS.up {W:World} {B:Nat} {V:World} {a:Option Addr} {n c:Nat} {home:Int} {d:DriftD} {nn:Int} {wr W':World} {v:Value} {l:List StD} {x y u q:Int} (h:TrS W B V a n c home d nn wr v l x y u q) (hu:Up wr W'):TrS W B V a n c home d nn W' v l x y u q :=
 ⟨h.r.ofUp hu,h.k.trans (hu.keeps _),h.w.up hu,h.d.up hu,h.s.up hu,h.o.up hu⟩
theorem TrS.next {W:World} {B:Nat} {V:World} {a:Option Addr} {n c:Nat} {home:Int} {d:DriftD} {nn mm:Int} {wr W':World} {v:Value} {l:List StD} {x y u q x' y' u' q':Int} (h:TrS W B V a n c home d nn wr v l x y u q) (hB:B<V.heap.size) (hWV:W.heap.size≤V.heap.size) (hr:RingAt W B mm W') (hg:wr.grownBy W' (some B)) :
 TrS W B V a n c home d mm ((((W'.setCell ⟨V.heap.size+1+1,0,none⟩ (.int .i64 x')).setCell ⟨V.heap.size+1+1,1,none⟩ (.int .i64 y')).setCell ⟨V.heap.size+1+1,2,none⟩ (.int .i64 u')).setCell ⟨V.heap.size+1+1,3,none⟩ (.int .i64 q')) v l x' y' u' q':=by
 have hne:v.ownBlock≠some (V.heap.size+1+1):=fun e=>by have:=(h.o.lt _ e).1;omega
 have k1:Keeps (fun b=>b≠B∧b<V.heap.size) V W':=h.k.turn hg (fun b hb hk=>hk.1 (Option.some.inj hb).symm)
 have o1:Own TSt 37 (V.heap.size+1+1+1) W' v l:=ownsRow_keeps (K:=fun g=>v.ownBlock=some g) h.o (Keeps.grown hg (fun b hb=>by have:=(h.o.lt b hb).1;omega)) fun _ e=>e
 have w1:=h.w.grown hg (by simp;omega)
 have d1:=h.d.grown hg (by simp;omega)
 have s1:=h.s.grown hg (by simp;omega)
 have ns:∀ b,b<V.heap.size+1+1→b≠V.heap.size+1+1:=fun b hb=>by omega
 exact ⟨(((hr.set (by omega) _ _).set (by omega) _ _).set (by omega) _ _).set (by omega) _ _,
  (((k1.set (fun h=>by omega) _ _).set (fun h=>by omega) _ _).set (fun h=>by omega) _ _).set (fun h=>by omega) _ _,
  (((w1.other (ns _ (by omega)) _ _).other (ns _ (by omega)) _ _).other (ns _ (by omega)) _ _).other (ns _ (by omega)) _ _,
  (((d1.other (ns _ (by omega)) _ _).other (ns _ (by omega)) _ _).other (ns _ (by omega)) _ _).other (ns _ (by omega)) _ _,
  (((s1.set 0 (.int .i64 x')).set 1 (.int .i64 y')).set 2 (.int .i64 u')).set 3 (.int .i64 q'),
  (((o1.set hne _ _).set hne _ _).set hne _ _).set hne _ _⟩
theorem TrS.push {W:World} {B:Nat} {V:World} {a:Option Addr} {n c:Nat} {home:Int} {d:DriftD} {nn:Int} {wr W':World} {v v':Value} {l l':List StD} {x y u q:Int} (h:TrS W B V a n c home d nn wr v l x y u q) (hWV:W.heap.size≤V.heap.size) (hg:wr.grownBy W' v.ownBlock) (ho:Own TSt 37 (V.heap.size+1+1+1) W' v' l'):TrS W B V a n c home d nn W' v' l' x y u q:=by
 have hlt:=fun g (e:v.ownBlock=some g)=>(h.o.lt g e).1
 exact ⟨h.r.grown hg (fun k e=>by have:=hlt k e;omega),h.k.turn hg (fun b hb hk=>by have:=hlt b hb;omega),h.w.grown hg (fun e=>by have:=hlt _ e;omega),h.d.grown hg (fun e=>by have:=hlt _ e;omega),h.s.grown hg (fun e=>by have:=hlt _ e;omega),ho⟩
theorem truthof_at {w:World} {sl:Value} (hN:Nums w sl) {B:Nat} (hB:w.heap.size≤B) {K:Nat→Prop} (hK:∀ b,K b→b≠B) {a:Option Addr} {n c:Nat} {bs:List Bod} {home:Int} (hh:I64 home) (d:DriftD) (k x y u v:Int) (hk0:0≤k∧k≤1000000) {ticks:Nat} (ht:ticks≤100) {t m:Int} {W V:World} (hu:Up w W) (hb:Box W B #[sl,.int .i64 t] 98) (hW:RingAt W B m V) (hl:Bods K V (.slice a n c) bs) (hm:m+8*ticks≤100000) :
 Calls Tryz.prog 27 #[.pointer (some ⟨B,0,none⟩),.agg #[.slice a n c,.int .i64 home],.agg #[.int .i64 (d.l.1),.int .i64 (d.l.2),.int .i64 (d.h.1),.int .i64 (d.h.2),.int .i64 (d.g)],.int .i64 k,.agg #[.int .i64 (x),.int .i64 (y),.int .i64 (u),.int .i64 (v)],.int .i64 ticks] V fun e W'=>∃ (la:Option Addr) (ln lc:Nat) (l:List StD),e=.returned (.slice la ln lc)∧Lst TSt (fun b=>V.heap.size≤b) W' (.slice la ln lc) ((x,y,u,v)::l)∧l.length=ticks∧RingAt W B (m+8*ticks) W'∧Keeps (fun b=>b≠B∧b<V.heap.size) V W':=by
 have hBV:B<V.heap.size:=Nat.lt_of_lt_of_le hb.lt hW.size
 have hWV:=hW.size
 have HS:=hide (fun (nn:Int) (wr:World) (vv:Value) (ll:List StD) (x' y' u' v':Int) (q:Int) (h:TrS W B V a n c home d nn wr vv ll x' y' u' v') (hn:nn+8≤100000)=>succ_at hN hB hh d q x' y' u' v' hu hb h.r ((hl.mono (K':=fun b=>b≠B∧b<V.heap.size) fun b hb hk=>⟨hK b hk,hb⟩).keeps h.k) hn)
 have HUW:=hide (fun (nn:Int) (wr:World) (h:RingAt W B nn wr)=>h.up hu hB)
 have HV:=hide hW
 have hwB:w.heap.size≤V.heap.size+1+1+1:=by omega
 clear hN hu hb hl hB hK hW
 go_enter Tryz.func27,Tryz.ntmps27
 go_wp2_with fail
 refine forgetW (fun U=>∃ vv,vv=.slice (some ⟨V.heap.size+1+1+1,0,none⟩) 1 1∧TrS W B V a n c home d m U vv [(x,y,u,v)] x y u v) ⟨_,rfl,HV.out.ofUp Up.go,(Keeps.refl _ _).trans (Up.keeps Up.go _),Box.go,Box.go,Box.go,Own.one (T:=TSt) (x:=((x,y,u,v):StD)) (base:=V.heap.size+1+1+1) (show Box _ (V.heap.size+1+1+1) _ _ from Box.go) (Nat.le_refl _)⟩ ?_
 clear HV
 rintro U ⟨vv,rfl,hU⟩
 have H0:=hide hU
 clear hU
 go_loopw [13,14] (fun s13 s14 wr=>∃ i:Nat,i≤ticks∧s14=.int .i64 i∧∃ (l:List StD) (x' y' u' v':Int),l.length=i∧Hid (TrS W B V a n c home d (m+8*i) wr s13 ((x,y,u,v)::l) x' y' u' v')) (fun _ s14 _=>ticks - (intOf s14).toNat)
 case atStart=>exact ⟨0,by omega,rfl,[],x,y,u,v,rfl,hide (by have:=H0.out.up (W':=_) Up.go;simpa using this)⟩
 case round =>
  obtain ⟨i,hi,rfl,l,x',y',u',v',hli,HI⟩:=hrel
  clear H0
  by_cases hlt:i<ticks
  · have hib:decide ((i:Int)<ticks)=true:=by simp;omega
    have hin:decide (i<ticks)=true:=by simp;omega
    obtain ⟨w0,w1⟩:=HI.out.w.c2
    have lw:=HI.out.w.lt
    obtain ⟨d0,d1,d2,d3,d4⟩:=HI.out.d.c5
    have ld:=HI.out.d.lt
    obtain ⟨p0,p1,p2,p3⟩:=HI.out.s.c4
    have lp:=HI.out.s.lt
    go_wp2_with fail
    go_at_call 64
    refine (HS.out _ _ _ _ _ _ _ _ (k+i) HI.out (by omega)).mono ?_
    rintro _ W2 ⟨x2,y2,u2,v2,rfl,hR,hg⟩
    have HN:=hide (HI.out.next (x':=x2) (y':=y2) (u':=u2) (q':=v2) hBV hWV hR hg)
    have hs2:=HI.out.s.grown hg (by simp;omega)
    obtain ⟨fz0,fz1,fz2,fz3⟩:=hs2.f4
    obtain ⟨c0,c1,c2,c3⟩:=hs2.c4
    have lc:=hs2.lt
    clear HI hR hg hs2 w0 w1 lw d0 d1 d2 d3 d4 ld p0 p1 p2 p3 lp
    obtain ⟨va,vc,hv⟩:=HN.out.o.form
    rw [show ((x,y,u,v)::l).length=i+1 by simp [hli]] at hv
    subst hv
    go_wp2_with (at_builtin;with_reducible refine stopA rfl ?_)
    refine hide ?_
    refine wpList_pushG elem_st rfl (.tmp 30) (.tmp 32) rfl (w0:=w) (base:=V.heap.size+1+1+1) ((HUW.out _ _ HN.out.r).trans Up.go) hwB (Nat.le_trans (Nat.succ_le_of_lt HN.out.s.lt) (by simp)) rfl (HN.out.o.up Up.go) (by simp;omega) (by decide) ((x2,y2,u2,v2):StD) rfl (show Box _ _ #[.int .i64 x2,.int .i64 y2,.int .i64 u2,.int .i64 v2] _ from Box.mk (by simp)) ?_
    intro g cap W' hu' ho hgr
    have HP:=hide ((HN.out.up Up.go).push hWV hgr ho)
    clear HN hu' ho hgr c0 c1 c2 c3 lc fz0 fz1 fz2 fz3
    go_wp2
    go_roundw
    case rel=>exact ⟨i+1,by omega,by go_num,l++[(x2,y2,u2,v2)],x2,y2,u2,v2,by simp;omega,hide (by have h:=HP.out;rw [show m+8*((i+1:Nat):Int)=m+8*i+8 by omega];simpa [hli] using h)⟩
    case measure=>simp [intOf];omega
  · have hib:decide ((i:Int)<ticks)=false:=by simp;omega
    have hin:decide (i<ticks)=false:=by simp;omega
    obtain rfl:i=ticks:=by omega
    obtain ⟨va,vc,hv⟩:=HI.out.o.form
    subst hv
    go_wp2
    exact bodyPost_ret (v:=.slice va ((x,y,u,v)::l).length vc) (by simp [results,Tryz.results27,go_sem]) rfl ⟨_,_,_,l,rfl,(((HI.out.o.lies (by simp;omega)).mono fun b _ hb=>by show V.heap.size≤b;omega).up Up.go),hli,HI.out.r.ofUp Up.go,HI.out.k.trans (Up.keeps Up.go _)⟩
theorem vReads_any {K:Nat→Prop} {w:World} {a sa ca:Option Addr} {n c sn sc cn cc:Nat} {s:SkyD} (hL:SkyL K w a n c sa sn sc ca cn cc s) (o:OffD) (p:Int×Int):Gives Tryz.prog 70 #[.agg #[.slice a n c,.int .i64 s.home,.slice sa sn sc,.slice ca cn cc],.agg (offA o),.agg #[.int .i64 (p.1),.int .i64 (p.2)]] w (.tuple #[.agg #[.int .i64 ((readsV s o p).1.1),.int .i64 ((readsV s o p).1.2)],.bool (readsV s o p).2]):=by
 have HF:=hide (fun W (hu:Up w W)=>vField_any (hL.up hu) o p)
 obtain ⟨x,y⟩:=p
 dsimp only at *
 unfold readsV
 by_cases hF:fieldV s o (x,y)=true
 rotate_left
 · rw [if_neg (by simp [hF])]
   replace hF:fieldV s o (x,y)=false:=Bool.eq_false_iff.2 hF
   rw [hF] at HF
   generalize s.home=home at *
   clear hL hF
   dsimp only
   (unfold Gives;go_enter Tryz.func70,Tryz.ntmps70)
   go_wp2_with fail
   go_at_call 69
   refine forgetK (fun V=>Up w V∧Box V w.heap.size #[.slice a n c,.int .i64 home,.slice sa sn sc,.slice ca cn cc] 29∧Box V (w.heap.size+1) (offA o) 50∧Box V (w.heap.size+1+1) #[.int .i64 (x),.int .i64 (y)] 48∧Box V (w.heap.size+1+1+1) #[.int .i64 (0),.int .i64 (0)] 31) ⟨Up.go,Box.go,Box.go,Box.go,Box.go⟩ ?_
   rintro V ⟨hu,b0,b1,b2,b3⟩
   obtain ⟨s0,s1,s2,s3⟩:=b0.c4
   have ls:=b0.lt
   obtain ⟨f0,f1,f2,f3,f4,f5,f6,f7,f8,f9,f10⟩:=b1.c11
   have lf:=b1.lt
   obtain ⟨g0,g1⟩:=b2.c2
   have lg:=b2.lt
   obtain ⟨z0,z1⟩:=b3.c2
   have lz:=b3.lt
   obtain ⟨fzz0,fzz1⟩:=b3.f2
   have HB:=hide (And.intro hu b3)
   clear hu b0 b1 b2 b3
   refine (HF.out _ HB.out.1).mono ?_
   intro q1
   go_wp2_with fail
   refine forgetW (fun WF=>Up w WF∧Box WF (w.heap.size+1+1+1) #[.int .i64 ((0)),.int .i64 ((0))] 31) ⟨(Up.viz HB.out.1),?_⟩ ?_
   · exact (by (repeat (first|with_reducible apply Box.ext|with_reducible apply Box.alloc|with_reducible apply Box.drew));exact ((HB.out.2.set 0 (.int .i64 (0))).set 1 (.int .i64 (0))))
   rintro WF ⟨huF,hbF⟩
   obtain ⟨w0,w1⟩:=hbF.c2
   (refine bodyPost_give huF rfl ⟨_,(by simp [results,Tryz.results70,go_sem,w0,w1];rfl),?_⟩)
   rfl
 obtain ⟨he,hp,hf⟩:=fieldV_true hF
 have HR:=hide (fun W (hu:Up w W)=>vreads0_any (hL.up hu) o he hp hf)
 rw [hF] at HF
 by_cases hlo:(readsK (kndOf s o) (x,y)).1≤(readsK (kndOf s o) (x,y)).2
 · rw [if_pos ⟨hF,hlo⟩]
   dsimp only
   generalize (readsK (kndOf s o) (x,y)).1=l1 at *
   generalize (readsK (kndOf s o) (x,y)).2=l2 at *
   have hlo2:¬ l2<l1:=by omega
   clear hF he hp hf hL
   generalize s.home=home at *
   (unfold Gives;go_enter Tryz.func70,Tryz.ntmps70)
   go_wp2_with fail
   go_at_call 69
   refine forgetK (fun V=>Up w V∧Box V w.heap.size #[.slice a n c,.int .i64 home,.slice sa sn sc,.slice ca cn cc] 29∧Box V (w.heap.size+1) (offA o) 50∧Box V (w.heap.size+1+1) #[.int .i64 (x),.int .i64 (y)] 48∧Box V (w.heap.size+1+1+1) #[.int .i64 (0),.int .i64 (0)] 31) ⟨Up.go,Box.go,Box.go,Box.go,Box.go⟩ ?_
   rintro V ⟨hu,b0,b1,b2,b3⟩
   obtain ⟨s0,s1,s2,s3⟩:=b0.c4
   have ls:=b0.lt
   obtain ⟨f0,f1,f2,f3,f4,f5,f6,f7,f8,f9,f10⟩:=b1.c11
   have lf:=b1.lt
   obtain ⟨g0,g1⟩:=b2.c2
   have lg:=b2.lt
   obtain ⟨z0,z1⟩:=b3.c2
   have lz:=b3.lt
   obtain ⟨fzz0,fzz1⟩:=b3.f2
   have HB:=hide (And.intro hu b3)
   clear hu b0 b1 b2 b3
   refine (HF.out _ HB.out.1).mono ?_
   intro q1
   go_wp2_with fail
   go_at_call 119
   refine (HR.out _ (by repeat (first|with_reducible exact HB.out.1|with_reducible apply Up.ext|with_reducible apply Up.alloc|with_reducible apply Up.drew))).mono ?_
   intro q2
   go_wp2_with fail
   refine forgetW (fun WF=>Up w WF∧Box WF (w.heap.size+1+1+1) #[.int .i64 ((l1)),.int .i64 ((l2))] 31) ⟨(Up.viz HB.out.1),?_⟩ ?_
   · exact (by (repeat (first|with_reducible apply Box.ext|with_reducible apply Box.alloc|with_reducible apply Box.drew));exact ((HB.out.2.set 0 (.int .i64 (l1))).set 1 (.int .i64 (l2))))
   rintro WF ⟨huF,hbF⟩
   obtain ⟨w0,w1⟩:=hbF.c2
   (refine bodyPost_give huF rfl ⟨_,(by simp [results,Tryz.results70,go_sem,w0,w1];rfl),?_⟩)
   rfl
 · rw [if_neg (fun h=>hlo h.2)]
   dsimp only
   generalize (readsK (kndOf s o) (x,y)).1=l1 at *
   generalize (readsK (kndOf s o) (x,y)).2=l2 at *
   have hlo2:l2<l1:=by omega
   clear hF he hp hf hL hlo
   generalize s.home=home at *
   (unfold Gives;go_enter Tryz.func70,Tryz.ntmps70)
   go_wp2_with fail
   go_at_call 69
   refine forgetK (fun V=>Up w V∧Box V w.heap.size #[.slice a n c,.int .i64 home,.slice sa sn sc,.slice ca cn cc] 29∧Box V (w.heap.size+1) (offA o) 50∧Box V (w.heap.size+1+1) #[.int .i64 (x),.int .i64 (y)] 48∧Box V (w.heap.size+1+1+1) #[.int .i64 (0),.int .i64 (0)] 31) ⟨Up.go,Box.go,Box.go,Box.go,Box.go⟩ ?_
   rintro V ⟨hu,b0,b1,b2,b3⟩
   obtain ⟨s0,s1,s2,s3⟩:=b0.c4
   have ls:=b0.lt
   obtain ⟨f0,f1,f2,f3,f4,f5,f6,f7,f8,f9,f10⟩:=b1.c11
   have lf:=b1.lt
   obtain ⟨g0,g1⟩:=b2.c2
   have lg:=b2.lt
   obtain ⟨z0,z1⟩:=b3.c2
   have lz:=b3.lt
   obtain ⟨fzz0,fzz1⟩:=b3.f2
   have HB:=hide (And.intro hu b3)
   clear hu b0 b1 b2 b3
   refine (HF.out _ HB.out.1).mono ?_
   intro q1
   go_wp2_with fail
   go_at_call 119
   refine (HR.out _ (by repeat (first|with_reducible exact HB.out.1|with_reducible apply Up.ext|with_reducible apply Up.alloc|with_reducible apply Up.drew))).mono ?_
   intro q2
   go_wp2_with fail
   refine forgetW (fun WF=>Up w WF∧Box WF (w.heap.size+1+1+1) #[.int .i64 ((0)),.int .i64 ((0))] 31) ⟨(Up.viz HB.out.1),?_⟩ ?_
   · exact (by (repeat (first|with_reducible apply Box.ext|with_reducible apply Box.alloc|with_reducible apply Box.drew));exact ((HB.out.2.set 0 (.int .i64 (0))).set 1 (.int .i64 (0))))
   rintro WF ⟨huF,hbF⟩
   obtain ⟨w0,w1⟩:=hbF.c2
   (refine bodyPost_give huF rfl ⟨_,(by simp [results,Tryz.results70,go_sem,w0,w1];rfl),?_⟩)
   rfl
end Go.Proofs.YteafglginnonnaaGreat
