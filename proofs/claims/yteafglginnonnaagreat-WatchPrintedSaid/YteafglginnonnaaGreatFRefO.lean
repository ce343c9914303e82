/- The reference of package force: all that moves a body in an area, at a place. Conditions: what lies in memory. -/
import Derived.Test.YteafglginnonnaaGreatFRefC
import Derived.Test.YteafglginnonnaaGreatSpanB
import Derived.Test.YteafglginnonnaaGreatOwn
set_option linter.unusedVariables false
set_option linter.unusedSimpArgs false
namespace Go.Proofs.YteafglginnonnaaGreat
set_option maxHeartbeats 4000000
set_option maxRecDepth 100000
open Go.RowKit Go.Shelf
theorem Tryz.infoarea:(Tryz.prog.info? 61).map (fun i=>(i.zero,i.size,i.bytes))=some (some (.agg #[.int .i64 (0),.int .i64 (0),.int .i64 (0),.int .i64 (0)]),4,32):=by kernel_rfl
def RAre (p:Ar) (vs:List Value):Prop:=vs=[.int .i64 p.1,.int .i64 p.2.1,.int .i64 p.2.2.1,.int .i64 p.2.2.2]
def partsR (L H:Ar) (bs:List Bod) (t:Int) (a:Ar):List Ar:=L::H::bs.map (pullB t a)
theorem partsR_fold {bs:List Bod} (l h:Sp) (g t:Int) (a:Ar) (hb:0<bs.length):(partsR (lightP l (pullB t a (bs.getD 0 ⟨0,0,[]⟩))) (heatP h (pullB t a (bs.getD 0 ⟨0,0,[]⟩))) bs t a).foldl sumP (gasP g)=overR bs l h g t a:=by
 match bs,hb with
 | b::bs,_=>rfl
theorem partsR_at {L H:Ar} {bs:List Bod} {t:Int} {a:Ar} {i:Nat} {b:Bod} (hi:bs[i]?=some b):(partsR L H bs t a).take (2+i)++[pullB t a b]=(partsR L H bs t a).take (2+(i+1)):=by
 rw [show 2+(i+1)=(2+i)+1 by omega,List.take_add_one]
 congr 1
 unfold partsR
 rw [show 2+i=i+1+1 by omega,List.getElem?_cons_succ,List.getElem?_cons_succ,List.getElem?_map,hi]
 rfl
theorem row2 {W:World} {Z:Nat} {p q:Ar} (hb:Box W Z #[.int .i64 (p.1),.int .i64 (p.2.1),.int .i64 (p.2.2.1),.int .i64 (p.2.2.2),.int .i64 (q.1),.int .i64 (q.2.1),.int .i64 (q.2.2.1),.int .i64 (q.2.2.2)] 61) :
 W.ownsRow Z 61 4 (.slice (some ⟨Z,0,none⟩) 2 2) 2 [.int .i64 p.1,.int .i64 p.2.1,.int .i64 p.2.2.1,.int .i64 p.2.2.2,.int .i64 q.1,.int .i64 q.2.1,.int .i64 q.2.2.1,.int .i64 q.2.2.2] ∧
  RowOf 4 RAre [p,q] [.int .i64 p.1,.int .i64 p.2.1,.int .i64 p.2.2.1,.int .i64 p.2.2.2,.int .i64 q.1,.int .i64 q.2.1,.int .i64 q.2.2.1,.int .i64 q.2.2.2] :=
 ⟨⟨rfl,.inr ⟨Z,2,_,rfl,Nat.le_refl _,hb,Nat.le_refl _,by unfold maxLen;omega,rfl,rfl⟩⟩,((RowOf.nil 4 RAre).snoc (x:=p) (vs:=[.int .i64 p.1,.int .i64 p.2.1,.int .i64 p.2.2.1,.int .i64 p.2.2.2]) rfl rfl).snoc (x:=q) rfl rfl⟩
def OvS (w:World) (a:Option Addr) (n c:Nat) (home l1 l2 k1 k2 g x0 x1 y0 y1:Int) (G Z:Nat) (PS:List Ar) (i:Nat) (sv:Value) (wr:World):Prop :=
 Up w wr∧Box wr w.heap.size #[.slice a n c,.int .i64 home] 25∧Box wr (w.heap.size+1) #[.int .i64 (l1),.int .i64 (l2),.int .i64 (k1),.int .i64 (k2),.int .i64 (g)] 33∧Box wr (w.heap.size+1+1) #[.int .i64 (x0),.int .i64 (x1),.int .i64 (y0),.int .i64 (y1)] 61∧Box wr (w.heap.size+1+1+1) #[.int .i64 (0),.int .i64 (0),.int .i64 (0),.int .i64 (0)] 61∧Box wr (G+1) #[.int .i64 (-g),.int .i64 (g),.int .i64 (-g),.int .i64 (g)] 61∧Z≤wr.heap.size∧∃ xs,wr.ownsRow Z 61 4 sv (2+i) xs∧RowOf 4 RAre (PS.take (2+i)) xs
theorem g_Over {K:Nat→Prop} {w:World} {a:Option Addr} {n c:Nat} {bs:List Bod} {home:Int} (hl:Bods K w (.slice a n c) bs) (hh:I64 home) (l h:Sp) (g t:Int) (x:Ar) :
 Gives Tryz.prog 153 #[.agg #[.slice a n c,.int .i64 home],.agg #[.int .i64 l.1,.int .i64 l.2,.int .i64 h.1,.int .i64 h.2,.int .i64 g],.int .i64 t,.agg #[.int .i64 x.1,.int .i64 x.2.1,.int .i64 x.2.2.1,.int .i64 x.2.2.2]] w (.tuple #[.agg #[.int .i64 ((overV bs home l h g t x).1).1,.int .i64 ((overV bs home l h g t x).1).2.1,.int .i64 ((overV bs home l h g t x).1).2.2.1,.int .i64 ((overV bs home l h g t x).1).2.2.2],.int .i64 (overV bs home l h g t x).2]):=by
 obtain ⟨x0,x1,y0,y1⟩:=x
 have HA:=hide (fun W (hu:Up w W)=>g_asked (hl.keeps (hu.keeps K)) hh l h g t x0 x1 y0 y1)
 have KLt:=hide (fun W (hu:Up w W)=>g_Light (hl.keeps (hu.keeps K)) hh l h g t (x0,x1,y0,y1))
 have KHt:=hide (fun W (hu:Up w W)=>g_Heat (hl.keeps (hu.keeps K)) hh l h g t (x0,x1,y0,y1))
 unfold overV
 unfold lightV at KLt
 unfold heatV at KHt
 by_cases he:askedE bs home l h g t (x0,x1,y0,y1)=0
 rotate_left
 · rw [if_neg he]
   have heb:(askedE bs home l h g t (x0,x1,y0,y1) != 0)=true:=by simp [he]
   generalize askedE bs home l h g t (x0,x1,y0,y1)=e at *
   clear hl he KLt KHt
   (unfold Gives;go_enter Tryz.func153,Tryz.ntmps153)
   go_wp2_with (go_at_call 183;refine (HA.out _ Up.go).mono ?_;intro _)
   (refine forgetW (fun WF=>Up w WF∧Box WF (w.heap.size+1+1+1) #[.int .i64 zA.1,.int .i64 zA.2.1,.int .i64 zA.2.2.1,.int .i64 zA.2.2.2] 61) ⟨Up.go,Box.go⟩ ?_;rintro WF ⟨huF,hbF⟩;have zF0:=hbF.cell 0 rfl;have zF1:=hbF.cell 1 rfl;have zF2:=hbF.cell 2 rfl;have zF3:=hbF.cell 3 rfl;(refine bodyPost_give huF rfl ⟨_,(by simp [results,Tryz.results153,go_sem,zF0,zF1,zF2,zF3];rfl),?_⟩);rfl)
 · rw [if_pos he] at KLt KHt ⊢
   rw [over_ref he]
   obtain ⟨h1,hdr,⟨t0,t1⟩,_⟩:=asked_zero he
   rw [he] at HA
   obtain ⟨wl1,wl2,_⟩:=worldE_zero h1
   have hpos:0<bs.length:=List.length_pos_iff.2 wl1
   have hg:0≤g∧g≤1000:=by
    unfold driftE at hdr
    split at hdr
    · split at hdr
      · split at hdr
        · rename_i h;simpa [withinB] using h
        · omega
      · contradiction
    · contradiction
   have hn:=(Bods.at hl).1
   rw [← partsR_fold l h g t (x0,x1,y0,y1) hpos]
   generalize lightP l (pullB t (x0,x1,y0,y1) (bs.getD 0 ⟨0,0,[]⟩))=L at *
   generalize heatP h (pullB t (x0,x1,y0,y1) (bs.getD 0 ⟨0,0,[]⟩))=H at *
   obtain ⟨PS,hPS⟩:∃ ps,partsR L H bs t (x0,x1,y0,y1)=ps:=⟨_,rfl⟩
   have hPSl:PS.length=2+n:=by rw [← hPS,hn];unfold partsR;simp;omega
   have KP:=hide (fun (i:Nat) (hi:i<n)=>show ∃ R:Ar,PS.take (2+i)++[R]=PS.take (2+(i+1))∧∀ W,Up w W→Gives Tryz.prog 186 #[.agg #[.slice a n c,.int .i64 home],.int .i64 i,.int .i64 t,.agg #[.int .i64 (x0),.int .i64 (x1),.int .i64 (y0),.int .i64 (y1)]] W (.agg #[.int .i64 R.1,.int .i64 R.2.1,.int .i64 R.2.2.1,.int .i64 R.2.2.2]) from by
    have hib:i<bs.length:=by rw [← hn];exact hi
    refine ⟨pullB t (x0,x1,y0,y1) bs[i],?_,fun W hu=>g_one (hl.keeps (hu.keeps K)) hh h1 (List.getElem?_eq_getElem hib) t0 t1 x0 x1 y0 y1⟩
    rw [← hPS]
    exact partsR_at (List.getElem?_eq_getElem hib))
   have hP2:=hide (show PS.take (2+0)=[L,H] by rw [← hPS];rfl)
   have hn8:n≤8:=by rw [hn];exact wl2
   rw [hPS]
   obtain ⟨iv,hvi,hv0,hv1,hv2⟩:=info_parts Tryz.infoarea
   have HI:=hide (And.intro hvi (And.intro hv0 (And.intro hv1 hv2)))
   have HPL:=hide hPSl
   obtain ⟨l1,l2⟩:=l
   obtain ⟨k1,k2⟩:=h
   dsimp only at HA KLt KHt
   clear hl hh he h1 hdr wl1 wl2 hpos hn hPS hPSl hvi hv0 hv1 hv2
   (unfold Gives;go_enter Tryz.func153,Tryz.ntmps153)
   go_wp2_with fail
   go_at_call 183
   refine (HA.out _ Up.go).mono ?_
   intro pa
   go_wp2_with fail
   go_at_call 184
   obtain ⟨G,hG⟩:∃ T,w.heap.size+1+1+1+1+pa.os.size=T:=⟨_,rfl⟩
   rw [hG]
   refine forgetE (fun V=>Up w V∧Box V w.heap.size #[.slice a n c,.int .i64 home] 25∧Box V (w.heap.size+1) #[.int .i64 (l1),.int .i64 (l2),.int .i64 (k1),.int .i64 (k2),.int .i64 (g)] 33∧Box V (w.heap.size+1+1) #[.int .i64 (x0),.int .i64 (x1),.int .i64 (y0),.int .i64 (y1)] 61∧Box V (w.heap.size+1+1+1) #[.int .i64 (0),.int .i64 (0),.int .i64 (0),.int .i64 (0)] 61∧Box V (G+1) #[.int .i64 (-g),.int .i64 (g),.int .i64 (-g),.int .i64 (g)] 61) ⟨Up.go,Box.go,Box.go,Box.go,Box.go,by rw [← hG];exact Box.go⟩ ?_
   rintro V1 ⟨hu,bw,bd,ba,bz,bg⟩
   have hGl:w.heap.size+1+1+1<G:=by omega
   clear hG
   refine (KLt.out _ hu).mono ?_
   intro pb
   obtain ⟨cw0,cw1⟩:=bw.c2
   have lcw:=bw.lt
   obtain ⟨cd0,cd1,cd2,cd3,cd4⟩:=bd.c5
   have lcd:=bd.lt
   obtain ⟨ca0,ca1,ca2,ca3⟩:=ba.c4
   have lca:=ba.lt
   go_wp2_with fail
   go_at_call 185
   obtain ⟨T13,hT13⟩:∃ T,V1.heap.size+pb.os.size=T:=⟨_,rfl⟩
   rw [hT13]
   refine forgetE (fun V=>Up w V∧Box V w.heap.size #[.slice a n c,.int .i64 home] 25∧Box V (w.heap.size+1) #[.int .i64 (l1),.int .i64 (l2),.int .i64 (k1),.int .i64 (k2),.int .i64 (g)] 33∧Box V (w.heap.size+1+1) #[.int .i64 (x0),.int .i64 (x1),.int .i64 (y0),.int .i64 (y1)] 61∧Box V (w.heap.size+1+1+1) #[.int .i64 (0),.int .i64 (0),.int .i64 (0),.int .i64 (0)] 61∧Box V (G+1) #[.int .i64 (-g),.int .i64 (g),.int .i64 (-g),.int .i64 (g)] 61∧Box V T13 #[.int .i64 L.1,.int .i64 L.2.1,.int .i64 L.2.2.1,.int .i64 L.2.2.2] 61) ⟨(Up.viz hu),(Box.viz bw),(Box.viz bd),(Box.viz ba),(Box.viz bz),(Box.viz bg),by rw [← hT13];exact Box.go⟩ ?_
   rintro V2 ⟨hu',bw',bd',ba',bz',bg',bL⟩
   clear hT13 cw0 cw1 lcw cd0 cd1 cd2 cd3 cd4 lcd ca0 ca1 ca2 ca3 lca hu bw bd ba bz bg
   refine (KHt.out _ hu').mono ?_
   intro pc
   obtain ⟨cL0,cL1,cL2,cL3⟩:=bL.c4
   have lcL:=bL.lt
   go_wp2_with fail
   obtain ⟨T15,hT15⟩:∃ T,V2.heap.size+pc.os.size=T:=⟨_,rfl⟩
   rw [hT15]
   refine forgetW (fun V=>Up w V∧Box V w.heap.size #[.slice a n c,.int .i64 home] 25∧Box V (w.heap.size+1) #[.int .i64 (l1),.int .i64 (l2),.int .i64 (k1),.int .i64 (k2),.int .i64 (g)] 33∧Box V (w.heap.size+1+1) #[.int .i64 (x0),.int .i64 (x1),.int .i64 (y0),.int .i64 (y1)] 61∧Box V (w.heap.size+1+1+1) #[.int .i64 (0),.int .i64 (0),.int .i64 (0),.int .i64 (0)] 61∧Box V (G+1) #[.int .i64 (-g),.int .i64 (g),.int .i64 (-g),.int .i64 (g)] 61∧Box V (T15+1) #[.int .i64 (L.1),.int .i64 (L.2.1),.int .i64 (L.2.2.1),.int .i64 (L.2.2.2),.int .i64 (H.1),.int .i64 (H.2.1),.int .i64 (H.2.2.1),.int .i64 (H.2.2.2)] 61) ⟨(Up.viz hu'),(Box.viz bw'),(Box.viz bd'),(Box.viz ba'),(Box.viz bz'),(Box.viz bg'),by rw [← hT15];exact Box.go⟩ ?_
   rintro V3 ⟨hu,bw,bd,ba,bz,bg,bLH⟩
   have hZG:G+1<T15+1:=by have:=bg'.lt;omega
   have hZl:=bLH.lt
   obtain ⟨hrow,hrw⟩:=row2 (p:=L) (q:=H) bLH
   have hS:=hide (show OvS w a n c home l1 l2 k1 k2 g x0 x1 y0 y1 G (T15+1) PS 0 (.slice (some ⟨T15+1,0,none⟩) 2 2) V3 from ⟨hu,bw,bd,ba,bz,bg,by omega,_,hrow,by rw [hP2.out];exact hrw⟩)
   clear hT15 cL0 cL1 cL2 cL3 lcL hu bw bd ba bz bg hu' bw' bd' ba' bz' bg' bL bLH hrow hrw HA KLt KHt hP2
   go_loopw [17,18] (fun s17 s18 wr=>∃ i:Nat,s18=.int .i64 i∧i≤n∧Hid (OvS w a n c home l1 l2 k1 k2 g x0 x1 y0 y1 G (T15+1) PS i s17 wr)) (fun _ s _=>n - (intOf s).toNat)
   case atStart=>exact ⟨0,by go_num,by omega,hS⟩
   case round =>
    obtain ⟨i,rfl,hi,hJ⟩:=hrel
    clear hS
    obtain ⟨hu,bw,bd,ba,bz,bg,hZ,xs,ho,hr⟩:=hJ.out
    obtain ⟨cw0,cw1⟩:=bw.c2
    have lcw:=bw.lt
    by_cases hlt:i<n
    · have hib:decide ((i:Int)<n)=true:=by simp;omega
      have hin:decide (i<n)=true:=by simp;omega
      obtain ⟨R,hR,KR⟩:=KP.out i hlt
      have KR1:=hide KR
      have HRn:=hide hR
      obtain ⟨ca0,ca1,ca2,ca3⟩:=ba.c4
      have lca:=ba.lt
      have HX:=hide (And.intro hu (And.intro bw (And.intro bd (And.intro ba (And.intro bz (And.intro bg (And.intro ho hr)))))))
      clear hJ hu bw bd ba bz bg ho hr KR hR
      go_wp2_with fail
      go_at_call 186
      refine (KR1.out _ HX.out.1).mono ?_
      intro pd
      go_wp2_with (at_builtin;with_reducible refine stopA rfl ?_)
      refine hide ?_
      have ho1:=(ownsRow_keeps HX.out.2.2.2.2.2.2.1 (((Up.refl wr).ext pd).keeps (fun _=>True)) (fun _ _=>trivial)).alloc (.cells #[.int .i64 R.1,.int .i64 R.2.1,.int .i64 R.2.2.1,.int .i64 R.2.2.2] 61)
      have hlrow:∀ b,u17.ownBlock=some b→T15+1≤b:=fun b e=>(HX.out.2.2.2.2.2.2.1.lt b e).1
      have hGb:=HX.out.2.2.2.2.2.1.lt
      refine wpList_append_lies _ rfl (.tmp 64) (.tmp 70) 248 rfl (T15+1) 61 iv _ 4 32 Tryz.underlying248 HI.out.1 HI.out.2.1 HI.out.2.2.1 HI.out.2.2.2 rfl (by decide) u17 (2+i) xs rfl ho1 ⟨wr.heap.size+pd.os.size,0,none⟩ 1 1 [.int .i64 R.1,.int .i64 R.2.1,.int .i64 R.2.2.1,.int .i64 R.2.2.2] rfl rfl
       (World.news_of_block (Box.mk (by simp))) (fun u hu=>by simp only [List.mem_cons,List.not_mem_nil,or_false] at hu;rcases hu with rfl | rfl | rfl | rfl <;> rfl) (by decide) (by unfold maxLen;omega) (by omega) (by simp;omega) _ rfl ?_
      intro gr cap w1 hown hgrow hat hlt1
      have hu1:Up w ((ext wr pd).alloc (.cells #[.int .i64 R.1,.int .i64 R.2.1,.int .i64 R.2.2.1,.int .i64 R.2.2.2] 61)):=(HX.out.1.ext pd).alloc _
      have hN:=hide (show OvS w a n c home l1 l2 k1 k2 g x0 x1 y0 y1 G (T15+1) PS (i+1) (.slice (some ⟨gr,0,none⟩) (2+i+1) cap) w1 from
       ⟨.of_below (hu1.below.grown hgrow hu1.below.size (fun k e=>by have:=hlrow k e;omega)),
        ((HX.out.2.1.ext pd).alloc _).grown hgrow (fun e=>by have:=hlrow _ e;omega),((HX.out.2.2.1.ext pd).alloc _).grown hgrow (fun e=>by have:=hlrow _ e;omega),((HX.out.2.2.2.1.ext pd).alloc _).grown hgrow (fun e=>by have:=hlrow _ e;omega),
        ((HX.out.2.2.2.2.1.ext pd).alloc _).grown hgrow (fun e=>by have:=hlrow _ e;omega),((HX.out.2.2.2.2.2.1.ext pd).alloc _).grown hgrow (fun e=>by have:=hlrow _ e;omega),by have:=(hown.lt gr rfl).1;omega,_,hown,by rw [← HRn.out];exact HX.out.2.2.2.2.2.2.2.snoc (x:=R) rfl rfl⟩)
      clear hown hgrow hat hlt1 ho1 hu1 hlrow HX cw0 cw1 lcw ca0 ca1 ca2 ca3 lca
      go_wp2
      go_roundw
      case rel=>exact ⟨i+1,by go_num,by omega,hN⟩
      case measure=>simp [intOf];omega
    · have hib:decide ((i:Int)<n)=false:=by simp;omega
      have hin:decide (i<n)=false:=by simp;omega
      obtain ⟨gr,cap,rfl,hgb,hgl⟩:=ho.form (by omega)
      obtain ⟨m,hm⟩:∃ m,2+i=m:=⟨_,rfl⟩
      rw [hm] at ho hr
      have hPm:PS.length=m:=by have:=HPL.out;omega
      rw [List.take_of_length_le (by omega)] at hr
      have hm20:m≤20:=by omega
      have HR:=hide hr
      have HPM:=hide hPm
      have hgz:=(ho.lt gr rfl).1
      have hF0:=hide (show Up w wr∧Box wr (w.heap.size+1+1+1) #[.int .i64 (0),.int .i64 (0),.int .i64 (0),.int .i64 (0)] 61∧(∃ O:Ar,(PS.take 0).foldl sumP (gasP g)=O∧Box wr (G+1) #[.int .i64 O.1,.int .i64 O.2.1,.int .i64 O.2.2.1,.int .i64 O.2.2.2] 61)∧wr.ownsRow (T15+1) 61 4 (.slice (some ⟨gr,0,none⟩) m cap) m xs from ⟨hu,bz,⟨gasP g,rfl,bg⟩,ho⟩)
      rw [hm]
      clear hJ hu bw bd ba bz bg ho hr hPm HPL hm
      go_wp2_with fail
      go_loopw [19] (fun s19 w2=>∃ k:Nat,s19=.int .i64 k∧k≤m∧Hid (Up w w2∧Box w2 (w.heap.size+1+1+1) #[.int .i64 (0),.int .i64 (0),.int .i64 (0),.int .i64 (0)] 61∧(∃ O:Ar,(PS.take k).foldl sumP (gasP g)=O∧Box w2 (G+1) #[.int .i64 O.1,.int .i64 O.2.1,.int .i64 O.2.2.1,.int .i64 O.2.2.2] 61)∧w2.ownsRow (T15+1) 61 4 (.slice (some ⟨gr,0,none⟩) m cap) m xs)) (fun s _=>m - (intOf s).toNat)
      case atStart=>exact ⟨0,by go_num,by omega,hF0⟩
      case round =>
       obtain ⟨k,rfl,hk,hJ⟩:=hrel
       clear hF0 cw0 cw1 lcw
       obtain ⟨hu,bz,⟨O,hO,bo⟩,ho⟩:=hJ.out
       obtain ⟨o1,o2,o3,o4⟩:=O
       by_cases hlk:k<m
       · have hkb:decide ((k:Int)<m)=true:=by simp;omega
         have hkn:decide (k<m)=true:=by simp;omega
         obtain ⟨⟨p1,p2,p3,p4⟩,hp⟩:∃ p,PS[k]?=some p:=⟨_,List.getElem?_eq_getElem (by rw [HPM.out];exact hlk)⟩
         obtain ⟨vs,e1,_,e3⟩:=HR.out.cell hp
         unfold RAre at e1
         subst e1
         have d0:=(ho.cellAt (k*4) (by omega)).trans (e3 0 _ rfl)
         have d1:=(ho.cellAt (k*4+1) (by omega)).trans (e3 1 _ rfl)
         have d2:=(ho.cellAt (k*4+2) (by omega)).trans (e3 2 _ rfl)
         have d3:=(ho.cellAt (k*4+3) (by omega)).trans (e3 3 _ rfl)
         have lgr:=(ho.lt gr rfl).2
         have HE:=hide (show (PS.take (k+1)).foldl sumP (gasP g)=sumP (o1,o2,o3,o4) (p1,p2,p3,p4) by rw [List.take_add_one,hp];simp only [Option.toList_some,List.foldl_append,List.foldl_cons,List.foldl_nil];rw [hO])
         obtain ⟨b0,b1,b2,b3⟩:=bo.c4
         have lb:=bo.lt
         obtain ⟨fb0,fb1,fb2,fb3⟩:=bo.f4
         have HX:=hide (And.intro hu (And.intro bz (And.intro bo ho)))
         clear hJ hu bz hO bo ho e3 hp
         go_wp2_with fail
         ((first | with_reducible refine wp_region_ext_tail2 1 (by kernel_rfl) (by kernel_rfl) ?_ | refine wp_region_ext_tail 1 (by kernel_rfl) (by kernel_rfl) ?_);simp only [List.length_cons,List.length_nil,Nat.reduceAdd,Nat.reduceSub,List.take_succ_cons,List.take_zero,List.drop_succ_cons,List.drop_zero];(repeat (go_big_quiet_step ((go_at_call 187;with_reducible exact Gives.inRegion (g_sum4 _ _ _ _ _)))));refine wpQuiet_nil ?_;intro _ hw';obtain ⟨_,hw''⟩:=hw';subst hw'')
         go_wp2_with fail
         go_roundw
         case rel =>
          refine ⟨k+1,by go_num,by omega,hide ⟨?_,?_,⟨_,HE.out,?_⟩,?_⟩⟩
          · exact (Up.viz HX.out.1)
          · exact (Box.viz HX.out.2.1)
          · exact (by (repeat (first|with_reducible apply Box.ext|with_reducible apply Box.alloc|with_reducible apply Box.drew));exact ((((HX.out.2.2.1.set 0 (.int .i64 (addP (o1,o2) (p1,p2)).1)).set 1 (.int .i64 (addP (o1,o2) (p1,p2)).2)).set 2 (.int .i64 (addP (o3,o4) (p3,p4)).1)).set 3 (.int .i64 (addP (o3,o4) (p3,p4)).2)))
          · refine ownsRow_keeps ?_ (((Up.refl _).ext _).keeps (fun _=>True)) (fun _ _=>trivial)
            have kept:∀ {V:World} (q:Nat) (v:Value),V.ownsRow (T15+1) 61 4 (.slice (some ⟨gr,0,none⟩) m cap) m xs→(V.setCell ⟨G+1,q,none⟩ v).ownsRow (T15+1) 61 4 (.slice (some ⟨gr,0,none⟩) m cap) m xs:=fun {V} q v h =>
             h.kept (grown_set (grown_refl _ (some (G+1))) q v) (.inr (fun e=>by have:=(h.lt (G+1) e).1;omega))
            exact kept _ _ (kept _ _ (kept _ _ (kept _ _ HX.out.2.2.2)))
         case measure=>simp [intOf];omega
       · have hkb:decide ((k:Int)<m)=false:=by simp;omega
         have hkn:decide (k<m)=false:=by simp;omega
         rw [List.take_of_length_le (by rw [HPM.out];omega)] at hO
         obtain ⟨b0,b1,b2,b3⟩:=bo.c4
         have lb:=bo.lt
         obtain ⟨z0,z1,z2,z3⟩:=bz.c4
         have lz:=bz.lt
         obtain ⟨fz0,fz1,fz2,fz3⟩:=bz.f4
         have HX:=hide (And.intro hu bz)
         have HO:=hide hO
         clear hJ hu bz bo ho hO
         go_wp2_with fail
         refine forgetW (fun WF=>Up w WF∧Box WF (w.heap.size+1+1+1) #[.int .i64 (o1),.int .i64 (o2),.int .i64 (o3),.int .i64 (o4)] 61) ⟨(Up.viz HX.out.1),(by (repeat (first|with_reducible apply Box.ext|with_reducible apply Box.alloc|with_reducible apply Box.drew));exact ((((HX.out.2.set 0 (.int .i64 o1)).set 1 (.int .i64 o2)).set 2 (.int .i64 o3)).set 3 (.int .i64 o4)))⟩ ?_
         rintro WF ⟨huF,hbF⟩
         obtain ⟨zF0,zF1,zF2,zF3⟩:=hbF.c4
         (refine bodyPost_give huF rfl ⟨_,(by simp [results,Tryz.results153,go_sem,zF0,zF1,zF2,zF3];rfl),?_⟩)
         rw [HO.out]
theorem g_Pull {K:Nat→Prop} {w:World} {a:Option Addr} {n c:Nat} {bs:List Bod} {home:Int} (hl:Bods K w (.slice a n c) bs) (hh:I64 home) (l h:Sp) (g t:Int) (px py:Int) :
 Gives Tryz.prog 113 #[.agg #[.slice a n c,.int .i64 home],.agg #[.int .i64 l.1,.int .i64 l.2,.int .i64 h.1,.int .i64 h.2,.int .i64 g],.int .i64 t,.agg #[.int .i64 (px),.int .i64 (py)]] w (.tuple #[.agg #[.int .i64 ((overV bs home l h g t (px,px,py,py)).1).1,.int .i64 ((overV bs home l h g t (px,px,py,py)).1).2.1,.int .i64 ((overV bs home l h g t (px,px,py,py)).1).2.2.1,.int .i64 ((overV bs home l h g t (px,px,py,py)).1).2.2.2],.int .i64 (overV bs home l h g t (px,px,py,py)).2]):=by
 have HO:=hide (fun W (hu:Up w W)=>g_Over (hl.keeps (hu.keeps K)) hh l h g t (px,px,py,py))
 generalize overV bs home l h g t (px,px,py,py)=R at *
 clear hl
 (unfold Gives;go_enter Tryz.func113,Tryz.ntmps113)
 go_wp2
 ((first | with_reducible refine wp_region_ext_tail2 2 (by kernel_rfl) (by kernel_rfl) ?_ | refine wp_region_ext_tail 2 (by kernel_rfl) (by kernel_rfl) ?_);simp only [List.length_cons,List.length_nil,Nat.reduceAdd,Nat.reduceSub,List.take_succ_cons,List.take_zero,List.drop_succ_cons,List.drop_zero];(repeat (go_big_quiet_step ((first | (go_at_call 154;with_reducible exact Gives.inRegion (g_at _ _ _)) | (go_at_call 153;with_reducible exact Gives.inRegion (HO.out _ Up.go))))));refine wpQuiet_nil ?_;intro _ hw';obtain ⟨_,hw''⟩:=hw';subst hw'')
 go_wp2
 (refine forgetW (fun WF=>Up w WF∧Box WF (w.heap.size+1+1+1) #[.int .i64 R.1.1,.int .i64 R.1.2.1,.int .i64 R.1.2.2.1,.int .i64 R.1.2.2.2] 61) ⟨Up.go,Box.go⟩ ?_;rintro WF ⟨huF,hbF⟩;have zF0:=hbF.cell 0 rfl;have zF1:=hbF.cell 1 rfl;have zF2:=hbF.cell 2 rfl;have zF3:=hbF.cell 3 rfl;(refine bodyPost_give huF rfl ⟨_,(by simp [results,Tryz.results113,go_sem,zF0,zF1,zF2,zF3];rfl),?_⟩);rfl)
end Go.Proofs.YteafglginnonnaaGreat
