/- Several texts in one. -/
import Derived.Test.YteafglginnonnaaGreatSkyP
import Derived.Test.YteafglginnonnaaGreatSkyQ
import Derived.Test.YteafglginnonnaaGreatTree
import Derived.Deep.AppendLies
/- A sky made of numbers: it lies in new blocks, and is small. Conditions: how often the ring was asked, and that what came in lies as it lay. -/
set_option linter.unusedVariables false
set_option linter.unusedSimpArgs false
namespace Go.Proofs.YteafglginnonnaaGreat
open Go.RowKit
theorem Tryz.infovec:(Tryz.prog.info? 48).map (fun i=>(i.zero,i.size,i.bytes))=some (some (.agg #[.int .i64 0,.int .i64 0]),2,16):=by kernel_rfl
theorem Tryz.infobody:(Tryz.prog.info? 110).map (fun i=>(i.zero,i.size,i.bytes))=some (some (.agg #[.int .i64 0,.int .i64 0,.slice none 0 0]),3,40):=by kernel_rfl
theorem Tryz.infosta:(Tryz.prog.info? 112).map (fun i=>(i.zero,i.size,i.bytes))=some (some (.agg #[.int .i64 0,.int .i64 0,.int .i64 0]),3,24):=by kernel_rfl
theorem Tryz.infocat:(Tryz.prog.info? 114).map (fun i=>(i.zero,i.size,i.bytes))=some (some (.agg #[.int .i64 0,.int .i64 0,.int .i64 0]),3,24):=by kernel_rfl
def SkB (W:World) (B:Nat) (t:Int) (k:Nat) (wr:World):Prop :=
 RingAt W B (t+34 - 11*k) wr∧Box wr W.heap.size #[.slice none 0 0,.int .i64 0,.slice none 0 0,.slice none 0 0] 29 ∧
  ∃ (sv:Value) (bs:List Bod) (xs:List Value),Box wr (W.heap.size+1) #[sv,.int .i64 0,.slice none 0 0,.slice none 0 0] 29∧wr.ownsRow (W.heap.size+2) 110 3 sv bs.length xs ∧
   RowOf 3 (RBod (fun b=>W.heap.size+2≤b∧sv.ownBlock≠some b) wr) bs xs∧(∀ b∈bs,SmallB b)∧bs.length+k≤3∧(k=0→1≤bs.length)
def SkT (W:World) (B:Nat) (n:Int) (w0:World) (b:Nat) (mu rad:Int) (j:Nat) (wr:World):Prop :=
 RingAt W B (n+8 - 2*j) wr∧Keeps (fun x=>W.heap.size≤x∧x<b) w0 wr ∧
  ∃ (tv:Value) (tr:List (Int×Int)) (ys:List Value),Box wr b #[.int .i64 mu,.int .i64 rad,tv] 110∧wr.ownsRow (b+1) 48 2 tv tr.length ys ∧
   RowOf 2 (RTwo wr) tr ys∧(∀ p∈tr,(-2000≤p.1∧p.1≤2000) ∧ -2000≤p.2∧p.2≤2000)∧tr.length+j≤4∧(j=0→1≤tr.length)
def SkS (W:World) (B:Nat) (n:Int) (w0:World) (vb:Value) (home:Int) (k:Nat) (id:Int) (wr:World):Prop :=
 RingAt W B (n+9 - 3*k) wr∧Keeps (fun x=>W.heap.size≤x∧x≠W.heap.size+1∧x<w0.heap.size) w0 wr ∧
  ∃ (sv:Value) (st:List (Int×Int×Int)) (xs:List Value),Box wr (W.heap.size+1) #[vb,.int .i64 home,sv,.slice none 0 0] 29∧wr.ownsRow w0.heap.size 112 3 sv st.length xs ∧
   RowOf 3 (RTri wr) st xs∧SmallSt st∧st.length+k≤3∧(k=0→1≤st.length)∧id=lastId st∧0≤id∧id≤3*st.length
def SkC (W:World) (B:Nat) (n:Int) (w0:World) (vb:Value) (home:Int) (vs:Value) (k:Nat) (id:Int) (wr:World):Prop :=
 RingAt W B (n+12 - 4*k) wr∧Keeps (fun x=>W.heap.size≤x∧x≠W.heap.size+1∧x<w0.heap.size) w0 wr ∧
  ∃ (sv:Value) (st:List (Int×Int×Int)) (xs:List Value),Box wr (W.heap.size+1) #[vb,.int .i64 home,vs,sv] 29∧wr.ownsRow w0.heap.size 114 3 sv st.length xs ∧
   RowOf 3 (RTri wr) st xs∧SmallCa st∧st.length+k≤3∧(k=0→1≤st.length)∧id=lastId st∧0≤id∧id≤3*st.length
set_option maxRecDepth 100000 in
set_option maxHeartbeats 4000000 in
theorem skyof_anyx {w:World} {sl:Value} (hN:Nums w sl) {B:Nat} (hB:w.heap.size≤B) (t:Int) (W:World) (hu:Up w W) (hb:Box W B #[sl,.int .i64 t] 98) (t0:0≤t) (t1:t+60≤100000) :
 Calls Tryz.prog 36 #[.pointer (some ⟨B,0,none⟩)] W fun e W'=>∃ (v:Value) (s:SkyD) (t':Int) (p:Ext),e=.returned v∧0≤t'∧t'≤t+60∧W'=ext (W.setCell ⟨B,1,none⟩ (.int .i64 t')) p∧SkyX (fun b=>W.heap.size≤b) W' v s∧SmallSky s:=by
 obtain ⟨iv,hvi,hv0,hv1,hv2⟩:=info_parts Tryz.infovec
 obtain ⟨ib,hbi,hb0,hb1,hb2⟩:=info_parts Tryz.infobody
 obtain ⟨is,hsi,hsz0,hsz1,hsz2⟩:=info_parts Tryz.infosta
 obtain ⟨ic,hci,hcz0,hcz1,hcz2⟩:=info_parts Tryz.infocat
 have HI:=hide (And.intro (And.intro hvi (And.intro hv0 (And.intro hv1 hv2))) (And.intro (And.intro hbi (And.intro hb0 (And.intro hb1 hb2))) (And.intro (And.intro hsi (And.intro hsz0 (And.intro hsz1 hsz2))) (And.intro hci (And.intro hcz0 (And.intro hcz1 hcz2))))))
 clear hvi hv0 hv1 hv2 hbi hb0 hb1 hb2 hsi hsz0 hsz1 hsz2 hci hcz0 hcz1 hcz2
 have KN:=hide (fun (m:Int) (m0:1≤m) (m1:m≤9223372036854775807) n V (hV:RingAt W B n V) (hn:n+1≤100000)=>(next_r hN hB m0 m1).at hu hb hB hV hn)
 have KP:=hide (fun (m:Int) (m0:0≤m) (m1:m≤1000000) n V (hV:RingAt W B n V) (hn:n+2≤100000)=>(pointof_k hN hB m0 m1).at hu hb hB hV hn)
 have HR:=hide (RingAt.start (n:=t) hb t0 (by omega))
 have lB:=hb.lt
 clear hN hB hu hb
 go_enter Tryz.func36,Tryz.ntmps36
 go_wp2_with fail
 go_at_call 34
 refine (KN.out 3 (by omega) (by omega) _ _ ((HR.out.alloc _).alloc _) (by omega)).mono ?_
 rintro _ V ⟨_,rfl,⟨x,x0,x1,rfl⟩,hR,hg⟩
 have b0:Box V W.heap.size #[.slice none 0 0,.int .i64 0,.slice none 0 0,.slice none 0 0] 29:=((Box.mk rfl).alloc _).grown hg (by simp;omega)
 have b1:Box V (W.heap.size+1) #[.slice none 0 0,.int .i64 0,.slice none 0 0,.slice none 0 0] 29:=(Box.mk (by simp)).grown hg (by simp;omega)
 obtain ⟨k0,hk0,hk1⟩:∃ k:Nat,1+x=(k:Int)∧1≤k∧k≤3:=⟨(1+x).toNat,by omega,by omega,by omega⟩
 have HS:=hide (show SkB W B t k0 V from ⟨hR.mono (by omega),b0,_,[],[],b1,World.ownsRow_nil _ _ _ _,RowOf.nil _ _,fun _ h=>(by cases h),by simp;omega,by omega⟩)
 rw [show x=(k0:Int) - 1 by omega]
 clear hR hg b0 b1 hk0 x0 x1
 go_wp2
 go_loopw [4] (fun s wr=>∃ k:Nat,s=.int .i64 k∧k≤3∧Hid (SkB W B t k wr)) (fun s _=>(intOf s).toNat)
 case atStart=>exact ⟨k0,by go_num,by omega,HS⟩
 case round =>
  obtain ⟨k,rfl,hk3,hK⟩:=hrel
  clear HS
  rcases Nat.eq_zero_or_pos k with hk0 | hkp
  · have hkb:decide ((0:Int)<k)=false:=by simp;omega
    obtain ⟨hR,b0,sv,bs,xs,b1,ho,hr,hsm,hbk,hb1⟩:=hK.out
    have hb1:=hb1 hk0
    obtain ⟨g,cap,rfl,hgb,hgl⟩:=ho.form (by omega)
    have hBods:BodsX g (fun b=>W.heap.size+2≤b∧b<wr.heap.size) wr (.slice (some ⟨g,0,none⟩) bs.length cap) bs :=
     ⟨Lies.ofRow ho (hr.mono fun _ _ h=>RBod.mono h (fun b hb hK=>⟨⟨hK.1,hb⟩,fun e=>hK.2 (by rw [e];rfl)⟩)) (fun x e=>by simp [Value.ownBlock] at e;omega) (by omega),⟨by omega,by omega⟩,ownsRow_box ho⟩
    have c0:=b1.cell 0 rfl
    have l1:=b1.lt
    have HX:=hide (And.intro hR (And.intro b0 (And.intro b1 (And.intro hBods hsm))))
    clear hK hR b0 b1 ho hr hBods hsm
    go_wp2_with fail
    go_at_call 34
    refine (KN.out bs.length (by omega) (by omega) _ _ HX.out.1 (by omega)).mono ?_
    rintro _ V1 ⟨_,rfl,⟨hm,hm0,hm1,rfl⟩,hR1,hg1⟩
    have b1v:=HX.out.2.2.1.grown hg1 (by simp;omega)
    have f1:=b1v.frozen 1
    have c1:=b1v.cell 1 rfl
    have l1v:=b1v.lt
    have HX1:=hide (And.intro hR1 (And.intro hg1 b1v))
    clear c0 hR1 hg1 b1v
    go_wp2_with fail
    go_at_call 34
    refine (KN.out 3 (by omega) (by omega) _ _ (HX1.out.1.set (by omega) _ _) (by omega)).mono ?_
    rintro _ V2 ⟨_,rfl,⟨x,x0,x1,rfl⟩,hR2,hg2⟩
    have hk2:Keeps (fun b=>W.heap.size≤b∧b≠W.heap.size+1∧b<wr.heap.size) wr V2:=(((Keeps.refl _ wr).turn HX1.out.2.1 (by intro b e;cases e;omega)).set (by simp) _ _).turn hg2 (by intro b e;cases e;omega)
    have b1w:Box V2 (W.heap.size+1) #[.slice (some ⟨g,0,none⟩) bs.length cap,.int .i64 hm,.slice none 0 0,.slice none 0 0] 29:=(HX1.out.2.2.set 1 (.int .i64 hm)).grown hg2 (by simp;omega)
    have b0w:=hk2.box HX.out.2.1 ⟨by omega,by omega,HX.out.2.1.lt⟩
    have hBods:BodsX g (fun b=>W.heap.size+2≤b∧b<V2.heap.size) V2 (.slice (some ⟨g,0,none⟩) bs.length cap) bs:=BodsX.mono (BodsX.keeps HX.out.2.2.2.1 (hk2.less fun b hb=>⟨by omega,by omega,hb.2⟩)) fun b hb hK=>⟨hK.1,hb⟩
    have hsm:=HX.out.2.2.2.2
    have hl2:=b1w.lt
    obtain ⟨j0,hj0,hj1⟩:∃ k:Nat,1+x=(k:Int)∧1≤k∧k≤3:=⟨(1+x).toNat,by omega,by omega,by omega⟩
    have HT:=hide (show SkS W B (t+36) V2 (.slice (some ⟨g,0,none⟩) bs.length cap) hm j0 0 V2 from ⟨hR2.mono (by omega),Keeps.refl _ _,_,[],[],b1w,World.ownsRow_nil _ _ _ _,RowOf.nil _ _,⟨fun _ h=>(by cases h),rfl⟩,by simp;omega,by omega,rfl,by omega,by simp⟩)
    have HB:=hide (And.intro b0w (And.intro hBods hsm))
    rw [show x=(j0:Int) - 1 by omega]
    clear HX HX1 hR2 hg2 hk2 b1w b0w hBods hsm c1 f1 l1 l1v x0 x1 hj0 hgl hkb
    go_wp2_with fail
    go_loopw [7,8] (fun s7 s8 wr=>∃ (j:Nat) (id:Int),s7=.int .i64 id∧s8=.int .i64 j∧j≤3∧(0≤id∧id≤9)∧Hid (SkS W B (t+36) V2 (.slice (some ⟨g,0,none⟩) bs.length cap) hm j id wr)) (fun _ s _=>(intOf s).toNat)
    case atStart=>exact ⟨j0,0,rfl,by go_num,by omega,by omega,HT⟩
    case round =>
     obtain ⟨j,id,rfl,rfl,hj3,⟨id0,id9⟩,hJ⟩:=hrel
     clear HT
     obtain ⟨hRj,hkj,stv,st,ys,b1,hos,hrs,hss,hjs,hj1s,hids,_,hid3⟩:=hJ.out
     have l1:=b1.lt
     replace hids:=hide hids
     rcases Nat.eq_zero_or_pos j with hjz | hjp
     · have hjb:decide ((0:Int)<j)=false:=by simp;omega
       have hn1:=hj1s hjz
       obtain ⟨g2,cap2,rfl,_,_⟩:=hos.form (by omega)
       clear hJ
       have hk1:=hkj.1
       obtain ⟨b0,hBods,hsm⟩:=HB.out
       have b0r:=hkj.box b0 ⟨by omega,by omega,b0.lt⟩
       have hBr:=BodsX.mono (K':=fun b=>W.heap.size+2≤b∧b<wr.heap.size) (BodsX.keeps hBods (hkj.less fun b hb=>⟨by omega,by omega,hb.2⟩)) fun b hb hK=>⟨hK.1,hb⟩
       have hTr:Tris (fun b=>W.heap.size+2≤b∧b<wr.heap.size) wr (.slice (some ⟨g2,0,none⟩) st.length cap2) st:=Lies.ofRow hos (hrs.mono fun _ _ h=>h) (fun x e=>by have:=hos.lt x e;omega) (by omega)
       have HX:=hide (And.intro hRj (And.intro b0r (And.intro hBr (And.intro hTr (And.intro b1 (And.intro hsm hss))))))
       clear HB hRj b0 b0r hBods hBr hTr b1 hsm hss hos hrs hkj hids
       go_wp2_with fail
       go_at_call 34
       refine (KN.out 3 (by omega) (by omega) _ _ HX.out.1 (by omega)).mono ?_
       rintro _ V3 ⟨_,rfl,⟨x,x0,x1,rfl⟩,hR3,hg3⟩
       obtain ⟨_,b0r,hBr,hTr,b1r,hsm,hss⟩:=HX.out
       have hk3:Keeps (fun b=>W.heap.size≤b∧b≠W.heap.size+1∧b<wr.heap.size) wr V3:=(Keeps.refl _ wr).turn hg3 (by intro b e;cases e;omega)
       have b1w:=b1r.grown hg3 (by simp;omega)
       have b0w:=hk3.box b0r ⟨by omega,by omega,b0r.lt⟩
       have hBods:=BodsX.mono (K':=fun b=>W.heap.size+2≤b∧b<V3.heap.size) (BodsX.keeps hBr (hk3.less fun b hb=>⟨by omega,by omega,hb.2⟩)) fun b hb hK=>⟨hK.1,hb⟩
       have hTris:Tris (fun b=>W.heap.size+2≤b∧b<V3.heap.size) V3 (.slice (some ⟨g2,0,none⟩) st.length cap2) st:=Lies.mono (Tris.keeps hTr (hk3.less fun b hb=>⟨by omega,by omega,hb.2⟩)) (fun b hb hK=>⟨hK.1,hb⟩) fun _ _ h=>h
       have hl3:=b1w.lt
       obtain ⟨i0,hi0,hi1⟩:∃ k:Nat,1+x=(k:Int)∧1≤k∧k≤3:=⟨(1+x).toNat,by omega,by omega,by omega⟩
       have HT:=hide (show SkC W B (t+46) V3 (.slice (some ⟨g,0,none⟩) bs.length cap) hm (.slice (some ⟨g2,0,none⟩) st.length cap2) i0 0 V3 from ⟨hR3.mono (by omega),Keeps.refl _ _,_,[],[],b1w,World.ownsRow_nil _ _ _ _,RowOf.nil _ _,⟨fun _ h=>(by cases h),rfl⟩,by simp;omega,by omega,rfl,by omega,by simp⟩)
       have HB:=hide (And.intro b0w (And.intro hBods (And.intro hTris (And.intro hsm hss))))
       rw [show x=(i0:Int) - 1 by omega]
       clear HX hR3 hg3 hk3 b0r hBr hTr b1r b1w b0w hBods hTris hsm hss x0 x1 hi0 l1 hjb hl2
       go_wp2_with fail
       go_loopw [9,10] (fun s7 s8 wr=>∃ (j:Nat) (id:Int),s7=.int .i64 id∧s8=.int .i64 j∧j≤3∧(0≤id∧id≤9)∧Hid (SkC W B (t+46) V3 (.slice (some ⟨g,0,none⟩) bs.length cap) hm (.slice (some ⟨g2,0,none⟩) st.length cap2) j id wr)) (fun _ s _=>(intOf s).toNat)
       case atStart=>exact ⟨i0,0,rfl,by go_num,by omega,by omega,HT⟩
       case round =>
        obtain ⟨q,id,rfl,rfl,hq3,⟨id0,id9⟩,hJ⟩:=hrel
        clear HT
        obtain ⟨hRj,hkj,cav,ca,zs,b1,hos,hrs,hss,hjs,hj1s,hids,_,hid3⟩:=hJ.out
        have l1:=b1.lt
        replace hids:=hide hids
        rcases Nat.eq_zero_or_pos q with hjz | hjp
        · have hjb:decide ((0:Int)<q)=false:=by simp;omega
          have hn2:=hj1s hjz
          obtain ⟨g3,cap3,rfl,_,_⟩:=hos.form (by omega)
          clear hJ
          have hk1:=hkj.1
          obtain ⟨b0,hBods,hTris,hsm,hst⟩:=HB.out
          have b0r:=hkj.box b0 ⟨by omega,by omega,b0.lt⟩
          have hKf:Keeps (fun b=>W.heap.size≤b∧b≠W.heap.size) wr (((wr.setCell ⟨W.heap.size,0,none⟩ (.slice (some ⟨g,0,none⟩) bs.length cap)).setCell ⟨W.heap.size,1,none⟩ (.int .i64 hm)).setCell ⟨W.heap.size,2,none⟩ (.slice (some ⟨g2,0,none⟩) st.length cap2) |>.setCell ⟨W.heap.size,3,none⟩ (.slice (some ⟨g3,0,none⟩) ca.length cap3)) :=
           ((((Keeps.refl _ wr).set (by simp) _ _).set (by simp) _ _).set (by simp) _ _).set (by simp) _ _
          have hRf:RingAt W B (t+60) (((wr.setCell ⟨W.heap.size,0,none⟩ (.slice (some ⟨g,0,none⟩) bs.length cap)).setCell ⟨W.heap.size,1,none⟩ (.int .i64 hm)).setCell ⟨W.heap.size,2,none⟩ (.slice (some ⟨g2,0,none⟩) st.length cap2) |>.setCell ⟨W.heap.size,3,none⟩ (.slice (some ⟨g3,0,none⟩) ca.length cap3)) :=
           ((((hRj.set (by omega) _ _).set (by omega) _ _).set (by omega) _ _).set (by omega) _ _).mono (by omega)
          have b0f:=(((b0r.set 0 (.slice (some ⟨g,0,none⟩) bs.length cap)).set 1 (.int .i64 hm)).set 2 (.slice (some ⟨g2,0,none⟩) st.length cap2)).set 3 (.slice (some ⟨g3,0,none⟩) ca.length cap3)
          obtain ⟨c0,c1,c2,c3⟩:=b1.c4
          obtain ⟨d0,d1,d2,d3⟩:=b0r.c4
          obtain ⟨e0,e1,e2,e3⟩:=b0r.f4
          have l0:=b0r.lt
          have hCa:Tris (fun b=>W.heap.size+2≤b∧b<wr.heap.size) wr (.slice (some ⟨g3,0,none⟩) ca.length cap3) ca:=Lies.ofRow hos (hrs.mono fun _ _ h=>h) (fun x e=>by have:=hos.lt x e;omega) (by omega)
          have hSky:SkyX (fun b=>W.heap.size≤b) _ (.agg #[.slice (some ⟨g,0,none⟩) bs.length cap,.int .i64 hm,(.slice (some ⟨g2,0,none⟩) st.length cap2),(.slice (some ⟨g3,0,none⟩) ca.length cap3)]) ⟨bs,hm,st,ca⟩ :=
           ⟨_,_,_,_,rfl,BodsX.mono (BodsX.keeps (BodsX.keeps hBods (hkj.less fun b hb=>⟨by omega,by omega,hb.2⟩)) (hKf.less fun b hb=>⟨by omega,by omega⟩)) (fun b _ hb=>by omega),⟨by simp only;omega,by simp only;omega⟩,
            Lies.mono (Tris.keeps (Tris.keeps hTris (hkj.less fun b hb=>⟨by omega,by omega,hb.2⟩)) (hKf.less fun b hb=>⟨by omega,by omega⟩)) (fun b _ hb=>by omega) fun _ _ h=>h,
            Lies.mono (Tris.keeps hCa (hKf.less fun b hb=>⟨by omega,by omega⟩)) (fun b _ hb=>by omega) fun _ _ h=>h⟩
          have hSm:SmallSky ⟨bs,hm,st,ca⟩:=⟨⟨hb1,by simp only;omega⟩,hsm,⟨hm0,by simp only;omega⟩,⟨by simp only;omega,by simp only;omega⟩,hst,⟨by simp only;omega,by simp only;omega⟩,hss⟩
          obtain ⟨t',p,ht0,ht1,hWf⟩:=hRf.out
          have HE:=hide (And.intro hSky (And.intro hSm (And.intro ht0 (And.intro ht1 hWf))))
          obtain ⟨z0,z1,z2,z3⟩:=b0f.c4
          have HZ:=hide (And.intro z0 (And.intro z1 (And.intro z2 z3)))
          clear b0 hBods hTris hsm hst b0r hKf hRf b0f hCa hSky hSm hWf z0 z1 z2 z3 b1 hos hrs hss hids hRj hkj
          go_wp2_with fail
          refine bodyPost_ret (v:=.agg #[.slice (some ⟨g,0,none⟩) bs.length cap,.int .i64 hm,(.slice (some ⟨g2,0,none⟩) st.length cap2),(.slice (some ⟨g3,0,none⟩) ca.length cap3)]) ?_ rfl ?_
          · simp [results,Tryz.results36,go_sem,HZ.out.1,HZ.out.2.1,HZ.out.2.2.1,HZ.out.2.2.2]
          · exact ⟨_,_,t',p,rfl,HE.out.2.2.1,HE.out.2.2.2.1,HE.out.2.2.2.2,HE.out.1,HE.out.2.1⟩
        · have hjb:decide ((0:Int)<q)=true:=by simp;omega
          clear hJ
          go_wp2_with fail
          go_at_call 34
          refine (KN.out 3 (by omega) (by omega) _ _ hRj (by omega)).mono ?_
          rintro _ Ua ⟨_,rfl,⟨x,x0,x1,rfl⟩,hRa,hga⟩
          have b1a:=b1.grown hga (by simp;omega)
          go_wp2_with fail
          go_at_call 34
          refine (KN.out 20001 (by omega) (by omega) _ _ hRa (by omega)).mono ?_
          rintro _ U0 ⟨_,rfl,⟨y,y0,y1,rfl⟩,hR0,hg0⟩
          have b10:=b1a.grown hg0 (by simp;omega)
          go_wp2_with fail
          have hS0:=hide (show U0.drew.cell? ⟨W.heap.size+1,3,none⟩=some cav from b10.drew.cell 3 rfl)
          refine wp_region_L (fun W'=>W'.cell? ⟨W.heap.size+1,3,none⟩=some cav) 16 (by kernel_rfl) ?_
          refine anyL_take 0 (v:=(.pointer (some ⟨W.heap.size+1,3,none⟩))) rfl (by kernel_rfl) (fun _ _ _ h=>h) (.inl ⟨rfl,fun W' hW'=>by simp [go_sem]⟩) hS0.out ?_
          simp only [Act.put,List.setIfInBounds_toArray,List.set_cons_zero,List.set_cons_succ]
          refine anyL_take 1 (v:=cav) rfl (by kernel_rfl) (fun _ _ _ h=>h) (.inl ⟨rfl,fun W' hW'=>by simp [go_sem,hW']⟩) hS0.out ?_
          simp only [Act.put,List.setIfInBounds_toArray,List.set_cons_zero,List.set_cons_succ]
          refine anyL_take 2 (v:=(.int .i64 (id+1+x))) rfl (by kernel_rfl) (fun _ _ _ h=>h) (.inl ⟨rfl,fun W' hW'=>by simp [go_sem]⟩) hS0.out ?_
          simp only [Act.put,List.setIfInBounds_toArray,List.set_cons_zero,List.set_cons_succ]
          refine anyL_take 3 (v:=(.int .i64 (y - 10000))) rfl (by kernel_rfl) (fun _ _ _ h=>h) (.inl ⟨rfl,fun W' hW'=>by simp [go_sem]⟩) hS0.out ?_
          simp only [Act.put,List.setIfInBounds_toArray,List.set_cons_zero,List.set_cons_succ]
          refine anyL_take 4 (v:=(.int .i64 (y - 10000))) rfl (by kernel_rfl) (fun _ _ _ h=>h) (.inl ⟨rfl,fun W' hW'=>by simp [go_sem]⟩) hS0.out ?_
          simp only [Act.put,List.setIfInBounds_toArray,List.set_cons_zero,List.set_cons_succ]
          refine anyL_take 5 (v:=(.pointer (some ⟨B,0,none⟩))) rfl (by kernel_rfl) (fun _ _ _ h=>h) (.inl ⟨rfl,fun W' hW'=>by simp [go_sem]⟩) hS0.out ?_
          simp only [Act.put,List.setIfInBounds_toArray,List.set_cons_zero,List.set_cons_succ]
          refine anyL_take 7 (v:=(.pointer (some ⟨B,0,none⟩))) rfl (by kernel_rfl) (fun _ _ _ h=>h) (.inl ⟨rfl,fun W' hW'=>by simp [go_sem]⟩) hS0.out ?_
          simp only [Act.put,List.setIfInBounds_toArray,List.set_cons_zero,List.set_cons_succ]
          refine anyL_one (i:=6) (by kernel_rfl) rfl (fun K HK=>?_)
          go_wp2_with fail
          go_at_call 34
          refine (KN.out 3 (by omega) (by omega) _ _ hR0.drew (by omega)).mono ?_
          rintro _ U1 ⟨_,rfl,⟨ka,ka0,ka1,rfl⟩,hR1,hg1⟩
          go_wp2_with fail
          have bb1:=b10.drew.grown hg1 (by simp;omega)
          refine HK.out _ _ (fun _=>bb1.cell 3 rfl) ?_
          clear HK
          refine anyL_one (i:=8) (by kernel_rfl) rfl (fun K HK=>?_)
          go_wp2_with fail
          go_at_call 34
          refine (KN.out 5000 (by omega) (by omega) _ _ hR1 (by omega)).mono ?_
          rintro _ U2 ⟨_,rfl,⟨kb,kb0,kb1,rfl⟩,hR2,hg2⟩
          go_wp2_with fail
          have bb2:=bb1.grown hg2 (by simp;omega)
          refine HK.out _ _ (fun _=>bb2.cell 3 rfl) ?_
          clear HK
          have hmul:0≤ka*kb∧ka*kb≤9998:=by
           rcases (show ka=0∨ka=1∨ka=2 by omega) with rfl | rfl | rfl <;> omega
          obtain ⟨mm,hmm⟩:∃ mm,ka*kb=mm:=⟨_,rfl⟩
          rw [hmm] at hmul
          refine anyL_one (i:=9) (by kernel_rfl) rfl (fun K HK=>?_)
          go_wp2_with fail
          refine HK.out _ _ (fun _=>bb2.cell 3 rfl) ?_
          clear HK
          refine anyL_one (i:=10) (by kernel_rfl) rfl (fun K HK=>?_)
          go_wp2_with fail
          refine HK.out _ _ (fun _=>bb2.cell 3 rfl) ?_
          clear HK
          refine anyL_one (i:=11) (by kernel_rfl) rfl (fun K HK=>?_)
          go_wp2_with fail
          refine HK.out _ _ (fun _=>bb2.cell 3 rfl) ?_
          clear HK
          refine anyL_one (i:=12) (by kernel_rfl) rfl (fun K HK=>?_)
          go_wp2_with fail
          refine HK.out _ _ (fun _=>bb2.cell 3 rfl) ?_
          clear HK
          refine anyL_one (i:=13) (by kernel_rfl) rfl (fun K HK=>?_)
          go_wp2_with fail
          refine HK.out _ _ (fun _=>(bb2.alloc _).cell 3 rfl) ?_
          clear HK
          refine anyL_one (i:=14) (by kernel_rfl) rfl (fun K HK=>?_)
          have ho1:(U2.alloc (.cells #[.int .i64 (id+1+x),.int .i64 (y - 10000),.int .i64 (y - 10000+mm)] 114)).ownsRow V3.heap.size 114 3 cav ca.length zs :=
           (((((hos.kept hga (.inr (fun e=>by have:=hos.lt _ e;omega))).kept hg0 (.inr (fun e=>by have:=hos.lt _ e;omega))).drew).kept hg1 (.inr (fun e=>by have:=hos.lt _ e;omega))).kept hg2 (.inr (fun e=>by have:=hos.lt _ e;omega))).alloc _
          have hsa:=hga.size
          have hsU0:=hg0.size
          have hsU1:=hg1.size
          have hsU2:=hg2.size
          have hsj:=hkj.1
          have hbl:V3.heap.size≤U2.heap.size+1:=by simp at hsU1;omega
          refine wpList_append_lies _ rfl (.tmp 91) (.tmp 103) 27 rfl V3.heap.size 114 ic _ 3 24 Tryz.underlying27 HI.out.2.2.2.1 HI.out.2.2.2.2.1 HI.out.2.2.2.2.2.1 HI.out.2.2.2.2.2.2 rfl (by decide) cav ca.length zs rfl ho1 ⟨U2.heap.size,0,none⟩ 1 1 [.int .i64 (id+1+x),.int .i64 (y - 10000),.int .i64 (y - 10000+mm)] rfl rfl
           (World.news_of_block (heap_new _ _)) (fun u hu=>by simp only [List.mem_cons,List.not_mem_nil,or_false] at hu;rcases hu with rfl | rfl | rfl <;> rfl) (by decide) (by unfold maxLen;omega) (by omega) (by simpa using hbl) _ rfl ?_
          intro g' cap' w1 hown1 hgrow1 hat1 hlt1
          have bb3:=(bb2.alloc (.cells #[.int .i64 (id+1+x),.int .i64 (y - 10000),.int .i64 (y - 10000+mm)] 114)).grown hgrow1 (fun e=>by have:=hos.lt _ e;omega)
          have hgb':V3.heap.size≤g':=(hown1.lt g' rfl).1
          have hNext:=hide (show SkC W B (t+46) V3 (.slice (some ⟨g,0,none⟩) bs.length cap) hm (.slice (some ⟨g2,0,none⟩) st.length cap2) (q - 1) (id+1+x) (w1.setCell ⟨W.heap.size+1,3,none⟩ (.slice (some ⟨g',0,none⟩) (ca.length+1) cap')) from
           ⟨(((hR2.alloc _).grown hgrow1 (fun k e=>by have:=hos.lt k e;omega)).set (by omega) _ _).mono (by omega),
            ((((((hkj.turn hga (by intro b e;cases e;omega)).turn hg0 (by intro b e;cases e;omega)).drew.turn hg1 (by intro b e;cases e;omega)).turn hg2 (by intro b e;cases e;omega)).alloc _).turn hgrow1 (fun b e=>by have:=hos.lt b e;omega)).set (by omega) _ _,
            _,ca++[(id+1+x,y - 10000,y - 10000+mm)],zs++[.int .i64 (id+1+x),.int .i64 (y - 10000),.int .i64 (y - 10000+mm)],bb3.set 3 _,
            by rw [List.length_append];exact hown1.kept (grown_set (grown_refl _ _) _ _) (.inr (by simp [Value.ownBlock];omega)),
            (RowOf.mono hrs fun _ _ h=>h).snoc (x:=(id+1+x,y - 10000,y - 10000+mm)) ⟨rfl,⟨by simp only;omega,by simp only;omega⟩,⟨by simp only;omega,by simp only;omega⟩,⟨by simp only;omega,by simp only;omega⟩⟩ rfl,
            hss.snoc (by have:=hids.out;omega) (by omega) (by omega) (by omega) (by omega),by simp;omega,fun _=>by simp,(lastId_snoc ca (id+1+x,y - 10000,y - 10000+mm)).symm,by omega,by simp;omega⟩)
          have c2:=bb3.cell 3 rfl
          have f2:=bb3.frozen 3
          have l2:=bb3.lt
          clear bb1 bb2 hRa hga hR0 hg0 hR1 hg1 hR2 hg2 ho1 hgrow1 hown1 hat1 bb3 hRj hkj b1 hos hrs hss hids b10 b1a
          go_wp2_with fail
          refine HK.out _ _ (fun _=>c2) ?_
          clear HK
          refine anyL_one (i:=15) (by kernel_rfl) rfl (fun K HK=>?_)
          go_wp2_with fail
          refine HK.out _ _ (fun _=>c2) ?_
          clear HK
          refine anyL_one (i:=16) (by kernel_rfl) rfl (fun K HK=>?_)
          go_wp2_with fail
          refine HK.out _ _ (fun h=>(h rfl).elim) ?_
          clear HK
          refine anyL_done (by kernel_rfl) ?_
          clear c2 f2
          go_wp2_with fail
          go_roundw
          case rel=>exact ⟨q - 1,id+1+x,rfl,by go_num,by omega,by omega,hNext⟩
          case measure=>simp [intOf];omega
     · have hjb:decide ((0:Int)<j)=true:=by simp;omega
       clear hJ
       go_wp2_with fail
       go_at_call 34
       refine (KN.out 3 (by omega) (by omega) _ _ hRj (by omega)).mono ?_
       rintro _ U0 ⟨_,rfl,⟨x,x0,x1,rfl⟩,hR0,hg0⟩
       have b10:=b1.grown hg0 (by simp;omega)
       go_wp2_with fail
       have hS0:=hide (show U0.drew.cell? ⟨W.heap.size+1,2,none⟩=some stv from b10.drew.cell 2 rfl)
       refine wp_region_L (fun W'=>W'.cell? ⟨W.heap.size+1,2,none⟩=some stv) 9 (by kernel_rfl) ?_
       refine anyL_take 0 (v:=(.pointer (some ⟨W.heap.size+1,2,none⟩))) rfl (by kernel_rfl) (fun _ _ _ h=>h) (.inl ⟨rfl,fun W' hW'=>by simp [go_sem]⟩) hS0.out ?_
       simp only [Act.put,List.setIfInBounds_toArray,List.set_cons_zero,List.set_cons_succ]
       refine anyL_take 1 (v:=stv) rfl (by kernel_rfl) (fun _ _ _ h=>h) (.inl ⟨rfl,fun W' hW'=>by simp [go_sem,hW']⟩) hS0.out ?_
       simp only [Act.put,List.setIfInBounds_toArray,List.set_cons_zero,List.set_cons_succ]
       refine anyL_take 2 (v:=(.int .i64 (id+1+x))) rfl (by kernel_rfl) (fun _ _ _ h=>h) (.inl ⟨rfl,fun W' hW'=>by simp [go_sem]⟩) hS0.out ?_
       simp only [Act.put,List.setIfInBounds_toArray,List.set_cons_zero,List.set_cons_succ]
       refine anyL_take 3 (v:=(.pointer (some ⟨B,0,none⟩))) rfl (by kernel_rfl) (fun _ _ _ h=>h) (.inl ⟨rfl,fun W' hW'=>by simp [go_sem]⟩) hS0.out ?_
       simp only [Act.put,List.setIfInBounds_toArray,List.set_cons_zero,List.set_cons_succ]
       refine anyL_one (i:=4) (by kernel_rfl) rfl (fun K HK=>?_)
       go_wp2_with fail
       go_at_call 76
       refine (KP.out 40 (by omega) (by omega) _ _ hR0.drew (by omega)).mono ?_
       rintro _ U1 ⟨_,rfl,⟨px,py,px0,px1,py0,py1,rfl⟩,hR1,hg1⟩
       go_wp2_with fail
       have bb1:=b10.drew.grown hg1 (by simp;omega)
       refine HK.out _ _ (fun _=>bb1.cell 2 rfl) ?_
       clear HK
       refine anyL_one (i:=5) (by kernel_rfl) rfl (fun K HK=>?_)
       go_wp2_with fail
       refine HK.out _ _ (fun _=>bb1.cell 2 rfl) ?_
       clear HK
       refine anyL_one (i:=6) (by kernel_rfl) rfl (fun K HK=>?_)
       go_wp2_with fail
       refine HK.out _ _ (fun _=>(bb1.alloc _).cell 2 rfl) ?_
       clear HK
       refine anyL_one (i:=7) (by kernel_rfl) rfl (fun K HK=>?_)
       have ho1:(U1.alloc (.cells #[.int .i64 (id+1+x),.int .i64 px,.int .i64 py] 112)).ownsRow V2.heap.size 112 3 stv st.length ys :=
        (((hos.kept hg0 (.inr (fun e=>by have:=hos.lt _ e;omega))).drew).kept hg1 (.inr (fun e=>by have:=hos.lt _ e;omega))).alloc _
       have hsU0:=hg0.size
       have hsU:=hg1.size
       have hsj:=hkj.1
       have hbl:V2.heap.size≤U1.heap.size+1:=by simp at hsU;omega
       refine wpList_append_lies _ rfl (.tmp 67) (.tmp 72) 26 rfl V2.heap.size 112 is _ 3 24 Tryz.underlying26 HI.out.2.2.1.1 HI.out.2.2.1.2.1 HI.out.2.2.1.2.2.1 HI.out.2.2.1.2.2.2 rfl (by decide) stv st.length ys rfl ho1 ⟨U1.heap.size,0,none⟩ 1 1 [.int .i64 (id+1+x),.int .i64 px,.int .i64 py] rfl rfl
        (World.news_of_block (heap_new _ _)) (fun u hu=>by simp only [List.mem_cons,List.not_mem_nil,or_false] at hu;rcases hu with rfl | rfl | rfl <;> rfl) (by decide) (by unfold maxLen;omega) (by omega) (by simpa using hbl) _ rfl ?_
       intro g' cap' w1 hown1 hgrow1 hat1 hlt1
       have bb2:=(bb1.alloc (.cells #[.int .i64 (id+1+x),.int .i64 px,.int .i64 py] 112)).grown hgrow1 (fun e=>by have:=hos.lt _ e;omega)
       have hgb':V2.heap.size≤g':=(hown1.lt g' rfl).1
       have hNext:=hide (show SkS W B (t+36) V2 (.slice (some ⟨g,0,none⟩) bs.length cap) hm (j - 1) (id+1+x) (w1.setCell ⟨W.heap.size+1,2,none⟩ (.slice (some ⟨g',0,none⟩) (st.length+1) cap')) from
        ⟨(((hR1.alloc _).grown hgrow1 (fun k e=>by have:=hos.lt k e;omega)).set (by omega) _ _).mono (by omega),
         ((((hkj.turn hg0 (by intro b e;cases e;omega)).drew.turn hg1 (by intro b e;cases e;omega)).alloc _).turn hgrow1 (fun b e=>by have:=hos.lt b e;omega)).set (by omega) _ _,
         _,st++[(id+1+x,px,py)],ys++[.int .i64 (id+1+x),.int .i64 px,.int .i64 py],bb2.set 2 _,
         by rw [List.length_append];exact hown1.kept (grown_set (grown_refl _ _) _ _) (.inr (by simp [Value.ownBlock];omega)),
         (RowOf.mono hrs fun _ _ h=>h).snoc (x:=(id+1+x,px,py)) ⟨rfl,⟨by simp only;omega,by simp only;omega⟩,⟨by simp only;omega,by simp only;omega⟩,⟨by simp only;omega,by simp only;omega⟩⟩ rfl,
         hss.snoc (by have:=hids.out;omega) (by omega) (by omega) (by omega) (by omega),by simp;omega,fun _=>by simp,(lastId_snoc st (id+1+x,px,py)).symm,by omega,by simp;omega⟩)
       have c2:=bb2.cell 2 rfl
       have f2:=bb2.frozen 2
       have l2:=bb2.lt
       clear bb1 hR0 hg0 hR1 hg1 ho1 hgrow1 hown1 hat1 bb2 hRj hkj b1 hos hrs hss hids b10
       go_wp2_with fail
       refine HK.out _ _ (fun _=>c2) ?_
       clear HK
       refine anyL_one (i:=8) (by kernel_rfl) rfl (fun K HK=>?_)
       go_wp2_with fail
       refine HK.out _ _ (fun _=>c2) ?_
       clear HK
       refine anyL_one (i:=9) (by kernel_rfl) rfl (fun K HK=>?_)
       go_wp2_with fail
       refine HK.out _ _ (fun h=>(h rfl).elim) ?_
       clear HK
       refine anyL_done (by kernel_rfl) ?_
       clear c2 f2
       go_wp2_with fail
       go_roundw
       case rel=>exact ⟨j - 1,id+1+x,rfl,by go_num,by omega,by omega,hNext⟩
       case measure=>simp [intOf];omega
  · obtain ⟨wo,rfl⟩:∃ wo:World,wo=wr:=⟨_,rfl⟩
    have hkb:decide ((0:Int)<k)=true:=by simp;omega
    obtain ⟨hR,b0,sv,bs,xs,b1,ho,hr,hsm,hbk,_⟩:=hK.out
    clear hK
    go_wp2_with fail
    go_at_call 34
    refine (KN.out 1048576 (by omega) (by omega) _ _ hR (by omega)).mono ?_
    rintro _ V1 ⟨_,rfl,⟨mu,mu0,mu1,rfl⟩,hR1,hg1⟩
    go_wp2_with fail
    go_at_call 34
    refine (KN.out 50 (by omega) (by omega) _ _ hR1 (by omega)).mono ?_
    rintro _ V2 ⟨_,rfl,⟨rad,rad0,rad1,rfl⟩,hR2,hg2⟩
    go_wp2_with fail
    go_at_call 34
    refine (KN.out 4 (by omega) (by omega) _ _ (by repeat (first|with_reducible exact hR2|with_reducible apply RingAt.ext|with_reducible apply RingAt.alloc|with_reducible apply RingAt.drew|(with_reducible refine RingAt.set ?_ (by omega) _ _))) (by omega)).mono ?_
    rintro _ V3 ⟨_,rfl,⟨x,x0,x1,rfl⟩,hR3,hg3⟩
    have hs0:=hR.size
    have hs1:=hg1.size
    have hs2:=hg2.size
    obtain ⟨b5,hb5⟩:∃ b5,V2.heap.size=b5:=⟨_,rfl⟩
    have bb:Box V3 b5 #[.int .i64 mu,.int .i64 rad,.slice none 0 0] 110:=(Box.mk hb5).grown hg3 (by simp;omega)
    have hk3:Keeps (fun x=>W.heap.size≤x∧x<b5) wo V3:=((((Keeps.refl _ wo).turn hg1 (by intro b e;cases e;omega)).turn hg2 (by intro b e;cases e;omega)).alloc _).turn hg3 (by intro b e;cases e;omega)
    obtain ⟨j0,hj0,hj1⟩:∃ k:Nat,1+x=(k:Int)∧1≤k∧k≤4:=⟨(1+x).toNat,by omega,by omega,by omega⟩
    have HT:=hide (show SkT W B (t+34 - 11*k+3) wo b5 mu rad j0 V3 from ⟨hR3.mono (by omega),hk3,_,[],[],bb,World.ownsRow_nil _ _ _ _,RowOf.nil _ _,fun _ h=>(by cases h),by simp;omega,by omega⟩)
    have HO:=hide (And.intro b0 (And.intro b1 (And.intro ho (And.intro hr hsm))))
    rw [show x=(j0:Int) - 1 by omega,hb5]
    have hb5w:wo.heap.size≤b5:=by omega
    clear hR1 hR2 hR3 hg1 hg2 hg3 bb hk3 hj0 x0 x1 b0 b1 ho hr hsm hs1 hs2 hb5
    go_wp2_with fail
    go_loopw [6] (fun s wr=>∃ j:Nat,s=.int .i64 j∧j≤4∧Hid (SkT W B (t+34 - 11*k+3) wo b5 mu rad j wr)) (fun s _=>(intOf s).toNat)
    case atStart=>exact ⟨j0,by go_num,by omega,HT⟩
    case round =>
     obtain ⟨j,rfl,hj4,hJ⟩:=hrel
     clear HT
     obtain ⟨hRj,hkj,tv,tr,ys,bb,hot,hrt,hst,hjt,hj1t⟩:=hJ.out
     clear hJ
     have lb:=bb.lt
     rcases Nat.eq_zero_or_pos j with hjz | hjp
     · have hjb:decide ((0:Int)<j)=false:=by simp;omega
       have hlen1:=hj1t hjz
       obtain ⟨b0,b1,ho,hr,hsm⟩:=HO.out
       have hwo:=hkj.1
       have l1:=b1.lt
       have hoB:∀ g,sv.ownBlock=some g→W.heap.size+2≤g∧g<wo.heap.size:=fun g e=>ho.lt g e
       have htB:∀ g,tv.ownBlock=some g→b5+1≤g∧g<wr.heap.size:=fun g e=>hot.lt g e
       have b0r:=hkj.box b0 ⟨by omega,by omega⟩
       have b1r:=hkj.box b1 ⟨by omega,by omega⟩
       have hor:=ownsRow_keeps ho hkj (fun g e=>by have:=hoB g e;exact ⟨by omega,by omega⟩)
       have hrr:RowOf 3 (RBod (fun b=>W.heap.size+2≤b∧sv.ownBlock≠some b∧b<b5) wr) bs xs:=(hr.mono fun _ _ h=>(RBod.mono (K':=fun b=>W.heap.size+2≤b∧sv.ownBlock≠some b∧b<b5) h (fun b hb hK=>⟨hK.1,hK.2,by omega⟩)).keeps (hkj.less fun b hb=>⟨by omega,hb.2.2⟩))
       have c0:=b1r.cell 0 rfl
       have f0:=b1r.frozen 0
       have l0:=b1r.lt
       obtain ⟨d0,d1,d2⟩:=bb.c3
       have HX:=hide (And.intro b0r (And.intro b1r (And.intro hor (And.intro hrr (And.intro hRj (And.intro hkj (And.intro bb (And.intro hot (And.intro hrt (And.intro hst (And.intro hsm (And.intro hoB htB))))))))))))
       clear b0 b1 ho hr hsm b0r b1r hor hrr hRj hkj bb hot hrt hst hoB htB
       have hone:∀ u∈[Value.int .i64 mu,Value.int .i64 rad,tv],u.oneCell'=true:=fun u hu=>by
        have:=ownsRow_one HX.out.2.2.2.2.2.2.2.1
        simp only [List.mem_cons,List.not_mem_nil,or_false] at hu
        rcases hu with rfl | rfl | rfl
        · rfl
        · rfl
        · exact this
       go_wp2_with (at_builtin;refine wpList_append_lies _ rfl (.tmp 40) (.tmp 42) 23 rfl (W.heap.size+2) 110 ib _ 3 40 Tryz.underlying23 HI.out.2.1.1 HI.out.2.1.2.1 HI.out.2.1.2.2.1 HI.out.2.1.2.2.2 rfl (by decide) sv bs.length xs rfl (HX.out.2.2.1.alloc _) ⟨wr.heap.size,0,none⟩ 1 1 [.int .i64 mu,.int .i64 rad,tv] rfl rfl (World.news_of_block (heap_new _ _)) hone (by decide) (by unfold maxLen;omega) (by omega) (by simp;omega) _ rfl ?_;intro g cap w1 hown1 hgrow1 hat1 hlt1;have b1n:=(HX.out.2.1.alloc (.cells #[.int .i64 mu,.int .i64 rad,tv] 110)).grown hgrow1 (fun e=>by have:=(HX.out.2.2.2.2.2.2.2.2.2.2.2.1 _ e).1;omega);have cn:=b1n.cell 0 rfl;have fn:=b1n.frozen 0;have ln:=b1n.lt;replace hown1:=hide hown1;replace hgrow1:=hide hgrow1;replace hat1:=hide hat1;replace b1n:=hide b1n)
       go_roundw
       case rel =>
        refine ⟨k - 1,by go_num,by omega,hide ?_⟩
        obtain ⟨b0r,b1r,hor,hrr,hRj,hkj,bb,hot,hrt,hst,hsm,hoB,htB⟩:=HX.out
        replace hown1:=hown1.out
        replace hgrow1:=hgrow1.out
        replace hat1:=hat1.out
        replace b1n:=b1n.out
        have hgb:W.heap.size+2≤g:=(hown1.lt g rfl).1
        have hgs:∀ x,x<b5→sv.ownBlock≠some x→g≠x:=fun x hx hne e=>by
         subst e
         rcases hat1 with h | h
         · exact hne h
         · simp at h;omega
        have hgt:∀ x,tv.ownBlock=some x→g≠x:=fun x e hx=>by
         subst hx
         have:=htB _ e
         rcases hat1 with h | h
         · have:=hoB _ h;omega
         · simp at h;omega
        have hKs:Keeps (fun b=>W.heap.size+2≤b∧sv.ownBlock≠some b) wr (w1.setCell ⟨W.heap.size+1,0,none⟩ (.slice (some ⟨g,0,none⟩) (bs.length+1) cap)) :=
         (((Keeps.refl _ wr).alloc _).turn hgrow1 (fun b e hb=>hb.2 e)).set (by omega) _ _
        refine ⟨(((hRj.alloc _).grown hgrow1 (fun k e=>by have:=hoB k e;omega)).set (by omega) _ _).mono (by omega),((b0r.alloc _).grown hgrow1 (fun e=>by have:=(hoB _ e).1;omega)).other (by omega) _ _,_,bs++[⟨mu,rad,tr⟩],xs++[.int .i64 mu,.int .i64 rad,tv],b1n.set 0 _,?_,?_,?_,?_,?_⟩
        · rw [List.length_append]
          exact hown1.kept (grown_set (grown_refl _ _) _ _) (.inr (by simp [Value.ownBlock];omega))
        · refine ((hrr.mono fun _ _ h=>?_).snoc (x:=⟨mu,rad,tr⟩) ⟨tv,rfl,⟨by simp only;omega,by simp only;omega⟩,⟨by simp only;omega,by simp only;omega⟩,?_⟩ rfl)
          · exact (h.keeps (hKs.less fun b hb=>⟨hb.1,hb.2.1⟩)).mono fun b _ hb=>⟨hb.1,fun e=>hgs b hb.2.2 hb.2.1 (by simpa [Value.ownBlock] using e)⟩
          · refine Lies.ofRow (ownsRow_keeps hot hKs fun x e=>⟨by have:=htB x e;omega,fun e2=>by have h1:=htB x e;have h2:=hoB x e2;omega⟩) (hrt.mono fun _ _ h=>h) (fun x e=>⟨by have:=htB x e;omega,fun e2=>hgt x e (by simpa [Value.ownBlock] using e2)⟩) (by simp only;omega)
        · intro b hb
          rcases List.mem_append.1 hb with hb | hb
          · exact hsm b hb
          · obtain rfl:b=⟨mu,rad,tr⟩:=by simpa using hb
            exact ⟨⟨mu0,by simp only;omega⟩,⟨rad0,by simp only;omega⟩,⟨by simp only;omega,by simp only;omega⟩,hst⟩
        · simp;omega
        · intro _;simp
       case measure=>simp [intOf];omega
     · have hjb:decide ((0:Int)<j)=true:=by simp;omega
       go_wp2_with fail
       have hS0:=hide (show wr.drew.cell? ⟨b5,2,none⟩=some tv from bb.drew.cell 2 rfl)
       refine wp_region_L (fun W'=>W'.cell? ⟨b5,2,none⟩=some tv) 7 (by kernel_rfl) ?_
       refine anyL_take 0 (v:=(.pointer (some ⟨b5,2,none⟩))) rfl (by kernel_rfl) (fun _ _ _ h=>h) (.inl ⟨rfl,fun W' hW'=>by simp [go_sem]⟩) hS0.out ?_
       simp only [Act.put,List.setIfInBounds_toArray,List.set_cons_zero,List.set_cons_succ]
       refine anyL_take 1 (v:=tv) rfl (by kernel_rfl) (fun _ _ _ h=>h) (.inl ⟨rfl,fun W' hW'=>by simp [go_sem,hW']⟩) hS0.out ?_
       simp only [Act.put,List.setIfInBounds_toArray,List.set_cons_zero,List.set_cons_succ]
       refine anyL_take 2 (v:=(.pointer (some ⟨B,0,none⟩))) rfl (by kernel_rfl) (fun _ _ _ h=>h) (.inl ⟨rfl,fun W' hW'=>by simp [go_sem]⟩) hS0.out ?_
       simp only [Act.put,List.setIfInBounds_toArray,List.set_cons_zero,List.set_cons_succ]
       refine anyL_one (i:=3) (by kernel_rfl) rfl (fun K HK=>?_)
       go_wp2_with fail
       go_at_call 76
       refine (KP.out 2000 (by omega) (by omega) _ _ hRj.drew (by omega)).mono ?_
       rintro _ U1 ⟨_,rfl,⟨px,py,px0,px1,py0,py1,rfl⟩,hR1,hg1⟩
       go_wp2_with fail
       have bb1:=bb.drew.grown hg1 (by simp;omega)
       refine HK.out _ _ (fun _=>bb1.cell 2 rfl) ?_
       clear HK
       refine anyL_one (i:=4) (by kernel_rfl) rfl (fun K HK=>?_)
       go_wp2_with fail
       refine HK.out _ _ (fun _=>(bb1.alloc _).cell 2 rfl) ?_
       clear HK
       refine anyL_one (i:=5) (by kernel_rfl) rfl (fun K HK=>?_)
       have ho1:(U1.alloc (.cells #[.int .i64 px,.int .i64 py] 48)).ownsRow (b5+1) 48 2 tv tr.length ys :=
        ((hot.drew).kept hg1 (.inr (fun e=>by have:=hot.lt _ e;omega))).alloc _
       have hsU:=hg1.size
       have hrw:=hRj.size
       have hbl:b5+1≤U1.heap.size+1:=by simp at hsU;omega
       refine wpList_append_lies _ rfl (.tmp 32) (.tmp 35) 108 rfl (b5+1) 48 iv _ 2 16 Tryz.underlying108 HI.out.1.1 HI.out.1.2.1 HI.out.1.2.2.1 HI.out.1.2.2.2 rfl (by decide) tv tr.length ys rfl ho1 ⟨U1.heap.size,0,none⟩ 1 1 [.int .i64 px,.int .i64 py] rfl rfl
        (World.news_of_block (heap_new _ _)) (fun u hu=>by rcases List.mem_cons.1 hu with rfl | hu <;> (try (obtain rfl:=List.mem_singleton.1 hu)) <;> rfl) (by decide) (by unfold maxLen;omega) (by omega) (by simpa using hbl) _ rfl ?_
       intro g cap w1 hown1 hgrow1 hat1 hlt1
       have bb2:=(bb1.alloc (.cells #[.int .i64 px,.int .i64 py] 48)).grown hgrow1 (fun e=>by have:=hot.lt _ e;omega)
       have bb3:=bb2.set 2 (.slice (some ⟨g,0,none⟩) (tr.length+1) cap)
       have hgb:b5+1≤g:=(hown1.lt g rfl).1
       have hRn:RingAt W B (t+34 - 11*k+3+8 - 2*(j - 1:Nat)) (w1.setCell ⟨b5,2,none⟩ (.slice (some ⟨g,0,none⟩) (tr.length+1) cap)) :=
        (((hR1.alloc _).grown hgrow1 (fun k e=>by have:=hot.lt k e;omega)).set (by omega) _ _).mono (by omega)
       have hkn:Keeps (fun x=>W.heap.size≤x∧x<b5) wo (w1.setCell ⟨b5,2,none⟩ (.slice (some ⟨g,0,none⟩) (tr.length+1) cap)) :=
        (((hkj.drew.turn hg1 (by intro b e;cases e;omega)).alloc _).turn hgrow1 (fun b e=>by have:=hot.lt b e;omega)).set (by omega) _ _
       have hon:(w1.setCell ⟨b5,2,none⟩ (.slice (some ⟨g,0,none⟩) (tr.length+1) cap)).ownsRow (b5+1) 48 2 (.slice (some ⟨g,0,none⟩) (tr.length+1) cap) (tr++[(px,py)]).length (ys++[.int .i64 px,.int .i64 py]):=by
        rw [List.length_append]
        exact hown1.kept (grown_set (grown_refl _ _) _ _) (.inr (by simp [Value.ownBlock];omega))
       have hNext:=hide (show SkT W B (t+34 - 11*k+3) wo b5 mu rad (j - 1) (w1.setCell ⟨b5,2,none⟩ (.slice (some ⟨g,0,none⟩) (tr.length+1) cap)) from
        ⟨hRn,hkn,_,tr++[(px,py)],_,bb3,hon,(RowOf.mono hrt fun _ _ h=>h).snoc (x:=(px,py)) ⟨rfl,⟨by simp only;omega,by simp only;omega⟩,⟨by simp only;omega,by simp only;omega⟩⟩ rfl,
         (fun p hp=>by
          rcases List.mem_append.1 hp with hp | hp
          · exact hst p hp
          · obtain rfl:p=(px,py):=by simpa using hp
            exact ⟨⟨by simp only;omega,by simp only;omega⟩,⟨by simp only;omega,by simp only;omega⟩⟩),by simp;omega,fun _=>by simp⟩)
       have c2:=bb2.cell 2 rfl
       have f2:=bb2.frozen 2
       have l2:=bb2.lt
       clear hRn hkn hon bb3 bb1 hR1 hg1 ho1 hgrow1 hown1 hat1
       go_wp2_with fail
       refine HK.out _ _ (fun _=>c2) ?_
       clear HK
       refine anyL_one (i:=6) (by kernel_rfl) rfl (fun K HK=>?_)
       go_wp2_with fail
       refine HK.out _ _ (fun _=>c2) ?_
       clear HK
       refine anyL_one (i:=7) (by kernel_rfl) rfl (fun K HK=>?_)
       go_wp2_with fail
       refine HK.out _ _ (fun h=>(h rfl).elim) ?_
       clear HK
       refine anyL_done (by kernel_rfl) ?_
       clear c2 f2
       go_wp2_with fail
       go_roundw
       case rel=>exact ⟨j - 1,by go_num,by omega,hNext⟩
       case measure=>simp [intOf];omega
theorem skyof_any {w:World} {sl:Value} (hN:Nums w sl) {B:Nat} (hB:w.heap.size≤B) (t:Int) (W:World) (hu:Up w W) (hb:Box W B #[sl,.int .i64 t] 98) (t0:0≤t) (t1:t+60≤100000) :
 Calls Tryz.prog 36 #[.pointer (some ⟨B,0,none⟩)] W fun e W'=>∃ (v:Value) (s:SkyD) (t':Int) (p:Ext),e=.returned v∧0≤t'∧t'≤t+60∧W'=ext (W.setCell ⟨B,1,none⟩ (.int .i64 t')) p∧SkyIn (fun b=>W.heap.size≤b) W' v s∧SmallSky s :=
 (skyof_anyx hN hB t W hu hb t0 t1).mono fun _ _ ⟨v,s,t',p,h1,h2,h3,h4,h5,h6⟩=>⟨v,s,t',p,h1,h2,h3,h4,h5.sky,h6⟩
theorem skyof_at {w:World} {sl:Value} (hN:Nums w sl) {B:Nat} (hB:w.heap.size≤B) {t:Int} {W W1:World} (hu:Up w W) (hb:Box W B #[sl,.int .i64 t] 98) {n:Int} (hW:RingAt W B n W1) (hn:n+60≤100000) :
 Calls Tryz.prog 36 #[.pointer (some ⟨B,0,none⟩)] W1 fun e W'=>∃ (v:Value) (s:SkyD),e=.returned v∧SkyIn (fun b=>W1.heap.size≤b) W' v s∧SmallSky s∧RingAt W B (n+60) W'∧W1.grownBy W' (some B):=by
 obtain ⟨t1,h0,h1,hbW⟩:=hW.box hb
 refine (skyof_any hN hB t1 W1 (hW.up hu hB) hbW h0 (by omega)).mono ?_
 rintro e W' ⟨v,s,t',p',he,h2,h3,rfl,hs,hm⟩
 exact ⟨v,s,he,hs,hm,hW.called hb.lt h2 (by omega) p',grown_up (grown_set (grown_refl _ _) _ _) ((Up.refl _).ext _)⟩
theorem forgetC {P:Program} {f:FuncId} {args:Array Value} {w:World} {R:Ending→World→Prop} (S:World→Prop) (hS:S w) (h:∀ w',S w'→Calls P f args w' R):Calls P f args w R:=h w hS
@[go_sem] theorem field_world (a b c d:Value) (w:World):(Instr.field 29 (.agg #[a,b,c,d]) 0).run Tryz.prog w=.ok (.agg #[a,b]) w:=by kernel_rfl
theorem ring_at_out {W:World} {B:Nat} {n t:Int} {k:Int} {R:Value→Prop} {v:Value} {W':World} (h:RingAt W B n W') (hn:n≤t+k) (hR:R v):RPost W B t k R (.returned v) W' :=
 let ⟨t',p,h0,h1,hW⟩:=h;⟨v,t',p,rfl,hR,h0,by omega,hW⟩
end Go.Proofs.YteafglginnonnaaGreat
