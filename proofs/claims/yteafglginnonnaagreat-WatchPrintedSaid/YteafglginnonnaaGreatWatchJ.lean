/- Several texts in one. -/
import Derived.Test.YteafglginnonnaaGreatSkyR
/- Which skies are valid: the reference's. Conditions: what lies in memory. -/
set_option linter.unusedVariables false
set_option linter.unusedSimpArgs false
namespace Go.Proofs.YteafglginnonnaaGreat
set_option maxHeartbeats 8000000
set_option maxRecDepth 100000
open Go.RowKit Go.Shelf
theorem scheck_any {K:Nat→Prop} {w:World} {a sa ca:Option Addr} {n c sn sc cn cc:Nat} {s:SkyD} (hb:Bods K w (.slice a n c) s.bodies) (hh:I64 s.home) (hs:Tris K w (.slice sa sn sc) s.stations) (hc:Tris K w (.slice ca cn cc) s.catalogs) :
 Gives Tryz.prog 103 #[.agg #[.slice a n c,.int .i64 s.home,.slice sa sn sc,.slice ca cn cc]] w (.int .i64 (skyE s)):=by
 have HC:=hide (fun W (hu:Up w W)=>sworld_any (hb.keeps (hu.keeps K)) hh)
 have hsn:=(Tris.at hs).1
 have hcn:=(Tris.at hc).1
 have hsm:=(Tris.at hs).2.1
 have hcm:=(Tris.at hc).2.1
 have HS:=hide hs
 have HT:=hide hc
 generalize hH:s.home=home at *
 by_cases hw:worldE s.bodies home=0
 rotate_left
 · have hE:skyE s=worldE s.bodies home:=by unfold skyE;rw [hH,if_neg hw]
   rw [hE]
   have hwb:(worldE s.bodies home != 0)=true:=by simp [hw]
   generalize worldE s.bodies home=e at *
   clear hb hh hs hc hE hsn hcn hw
   (unfold Gives;go_enter Tryz.func103,Tryz.ntmps103)
   go_wp2_with (go_at_call 143;refine (HC.out _ Up.go).mono ?_;intro _)
   go_ret
   exact ⟨rfl,Up.go⟩
 · rw [hw] at HC
   by_cases h16:16<sn
   · have hE:skyE s=8:=by unfold skyE;rw [hH,if_pos hw,if_pos (by omega)]
     rw [hE]
     have hb16:decide ((16:Int)<sn)=true:=by simp;omega
     have hb16n:decide (16<sn)=true:=by simp;omega
     clear hb hh hs hc hE hsn hcn hw HS HT
     (unfold Gives;go_enter Tryz.func103,Tryz.ntmps103)
     go_wp2_with (go_at_call 143;refine (HC.out _ Up.go).mono ?_;intro _)
     go_ret
     exact ⟨rfl,Up.go⟩
   · have hE:skyE s=if stationsE 0 s.stations=0 then (if 8<s.catalogs.length then 8 else catalogsE 0 s.catalogs) else stationsE 0 s.stations:=by unfold skyE;rw [hH,if_pos hw,if_neg (by omega)]
     have HE:=hide hE
     have HN:=hide (And.intro hsn hcn)
     have hb16:decide ((16:Int)<sn)=false:=by simp;omega
     have hb16n:decide (16<sn)=false:=by simp;omega
     clear hb hh hs hc hE hsn hcn hw
     (unfold Gives;go_enter Tryz.func103,Tryz.ntmps103)
     go_wp2_with (go_at_call 143;refine (HC.out _ Up.go).mono ?_;intro _)
     refine forgetW (fun V=>Up w V∧Box V w.heap.size #[.slice a n c,.int .i64 home,.slice sa sn sc,.slice ca cn cc] 29) ⟨Up.go,Box.go⟩ ?_
     rintro V0 ⟨hu0,bx⟩
     have H0:=hide (show (Up w V0∧Box V0 w.heap.size #[.slice a n c,.int .i64 home,.slice sa sn sc,.slice ca cn cc] 29)∧stationsE 0 s.stations=stationsE 0 (s.stations.drop 0) from ⟨⟨hu0,bx⟩,rfl⟩)
     clear hu0 bx HC
     go_loopw [4,5] (fun s4 s22 wr=>∃ (k:Nat) (last:Int),s4=.int .i64 last∧s22=.int .i64 k∧k≤sn∧Hid ((Up w wr∧Box wr w.heap.size #[.slice a n c,.int .i64 home,.slice sa sn sc,.slice ca cn cc] 29)∧stationsE 0 s.stations=stationsE last (s.stations.drop k))) (fun _ q _=>sn - (intOf q).toNat)
     case atStart=>exact ⟨0,0,by go_num,by go_num,by omega,H0⟩
     case round =>
      obtain ⟨k,last,rfl,rfl,hk,hJ⟩:=hrel
      clear H0
      have xs2:=hJ.out.1.2.cell 2 rfl
      have lxs:=hJ.out.1.2.lt
      by_cases hlt:k<sn
      · have hkb:decide ((k:Int)<sn)=true:=by simp;omega
        have hkn:decide (k<sn)=true:=by simp;omega
        obtain ⟨b0,o0,p,ea,_,hb0,hp,hI,d0,d1,d2⟩:=(Tris.at (HS.out.keeps (hJ.out.1.1.keeps K))).2.2 k hlt
        subst ea
        have HP:=hide (st_at hp last)
        have HI:=hide hI
        clear hp hI
        obtain ⟨p0,p1,p2⟩:=p
        dsimp only at d0 d1 d2 HP
        by_cases h1:p0≤last
        · have h1b:decide (p0≤last)=true:=by simpa using h1
          have hR:=HP.out
          rw [if_pos h1] at hR
          have HR:=hide hR
          clear hR h1 HP
          go_wp2
          go_ret
          refine ⟨ret_int ?_,(Up.via hJ.out.1.1)⟩
          have:=hJ.out.2
          rw [HR.out] at this
          rw [HE.out,if_neg (by omega),this]
        · have h1b:decide (p0≤last)=false:=by simpa using h1
          have HB1:=hide (fun W=>sbetween_any p1 (-1048576) 1048576 W)
          have HB2:=hide (fun W=>sbetween_any p2 (-1048576) 1048576 W)
          have hR:=HP.out
          unfold nearV at hR
          dsimp only at hR
          rw [if_neg h1] at hR
          generalize withinB p1 (-1048576) 1048576=A at *
          generalize withinB p2 (-1048576) 1048576=B at *
          have HR:=hide hR
          clear hR h1 HP
          cases A
          · go_wp2_with fail
            go_at_call 126
            refine (HB1.out _).mono ?_
            intro pq
            go_wp2
            go_ret
            refine ⟨ret_int ?_,(Up.via hJ.out.1.1)⟩
            have:=hJ.out.2
            rw [HR.out,Bool.false_and,if_pos rfl] at this
            rw [HE.out,if_neg (by omega),this]
          · cases B
            · go_wp2_with fail
              go_at_call 126
              refine (HB1.out _).mono ?_
              intro pq
              go_wp2_with fail
              go_at_call 126
              refine (HB2.out _).mono ?_
              intro pr
              go_wp2
              go_ret
              refine ⟨ret_int ?_,(Up.via hJ.out.1.1)⟩
              have:=hJ.out.2
              rw [HR.out,Bool.true_and,if_pos rfl] at this
              rw [HE.out,if_neg (by omega),this]
            · go_wp2_with fail
              go_at_call 126
              refine (HB1.out _).mono ?_
              intro pq
              go_wp2_with fail
              go_at_call 126
              refine (HB2.out _).mono ?_
              intro pr
              go_wp2
              go_roundw
              case rel=>exact ⟨k+1,p0,by go_num,by go_num,by omega,hide ⟨⟨(Up.via hJ.out.1.1),(Box.via hJ.out.1.2)⟩,by rw [hJ.out.2,HR.out,Bool.true_and,if_neg (by simp)]⟩⟩
              case measure=>simp [intOf];omega
      · have hkb:decide ((k:Int)<sn)=false:=by simp;omega
        have hkn:decide (k<sn)=false:=by simp;omega
        have hst:stationsE 0 s.stations=0:=by
         rw [hJ.out.2,List.drop_eq_nil_of_le (by have:=HN.out.1;omega)]
         rfl
        have hE:=HE.out
        rw [if_pos hst] at hE
        have x0:=hJ.out.1.2.cell 3 rfl
        have lx:=hJ.out.1.2.lt
        by_cases h8:8<cn
        · have h8b:decide ((8:Int)<cn)=true:=by simp;omega
          have h8n:decide (8<cn)=true:=by simp;omega
          rw [if_pos (by have:=HN.out.2;omega)] at hE
          have HE2:=hide hE
          clear hE hst h8
          go_wp2
          go_ret
          exact ⟨ret_int (by rw [HE2.out]),(Up.via hJ.out.1.1)⟩
        · have h8b:decide ((8:Int)<cn)=false:=by simp;omega
          have h8n:decide (8<cn)=false:=by simp;omega
          rw [if_neg (by have:=HN.out.2;omega)] at hE
          have HE2:=hide hE
          have HU:=hide hJ.out.1.1
          have HB:=hide hJ.out.1.2
          clear hE hst h8 hJ HE HS
          go_wp2
          refine forgetW (fun V=>Up w V∧Box V w.heap.size #[.slice a n c,.int .i64 home,.slice sa sn sc,.slice ca cn cc] 29) ⟨(Up.via HU.out),(Box.via HB.out)⟩ ?_
          rintro V1 ⟨hu1,hb1⟩
          have H1:=hide (show (Up w V1∧Box V1 w.heap.size #[.slice a n c,.int .i64 home,.slice sa sn sc,.slice ca cn cc] 29)∧catalogsE 0 s.catalogs=catalogsE 0 (s.catalogs.drop 0) from ⟨⟨hu1,hb1⟩,rfl⟩)
          clear hu1 hb1 x0 lx HU HB xs2 lxs
          go_loopw [4,7] (fun s4 s46 w2=>∃ (q:Nat) (last:Int),s4=.int .i64 last∧s46=.int .i64 q∧q≤cn∧Hid ((Up w w2∧Box w2 w.heap.size #[.slice a n c,.int .i64 home,.slice sa sn sc,.slice ca cn cc] 29)∧catalogsE 0 s.catalogs=catalogsE last (s.catalogs.drop q))) (fun _ q _=>cn - (intOf q).toNat)
          case atStart=>exact ⟨0,0,by go_num,by go_num,by omega,H1⟩
          case round =>
           obtain ⟨q,last,rfl,rfl,hq,hJ⟩:=hrel
           clear H1
           have xs3:=hJ.out.1.2.cell 3 rfl
           have lxs:=hJ.out.1.2.lt
           by_cases hlq:q<cn
           · have hqb:decide ((q:Int)<cn)=true:=by simp;omega
             have hqn:decide (q<cn)=true:=by simp;omega
             obtain ⟨b0,o0,p,ea,_,hb0,hp,hI,d0,d1,d2⟩:=(Tris.at (HT.out.keeps (hJ.out.1.1.keeps K))).2.2 q hlq
             subst ea
             have HP:=hide (ca_at hp last)
             have HI:=hide hI
             clear hp hI
             obtain ⟨p0,p1,p2⟩:=p
             dsimp only at d0 d1 d2 HP
             by_cases h1:p0≤last
             · have h1b:decide (p0≤last)=true:=by simpa using h1
               have hR:=HP.out
               rw [if_pos h1] at hR
               have HR:=hide hR
               clear hR h1 HP
               go_wp2
               go_ret
               refine ⟨ret_int ?_,(Up.via hJ.out.1.1)⟩
               rw [HE2.out,hJ.out.2,HR.out]
             · have h1b:decide (p0≤last)=false:=by simpa using h1
               by_cases h2:p1 < -500000∨p2<p1∨500000<p2
               · have hR:=HP.out
                 rw [if_neg h1,if_pos h2] at hR
                 have HR:=hide hR
                 clear hR h1 HP
                 have HF:=hide (show Hid (skyE s=2) from hide (by rw [HE2.out,hJ.out.2,HR.out]))
                 by_cases h3:p1 < -500000
                 · have h3b:decide (p1 < -500000)=true:=by simpa using h3
                   clear h2 h3
                   go_wp2
                   go_ret
                   exact ⟨ret_int (by rw [HF.out.out]),(Up.via hJ.out.1.1)⟩
                 · have h3b:decide (p1 < -500000)=false:=by simpa using h3
                   by_cases h4:p2<p1
                   · have h4b:decide (p2<p1)=true:=by simpa using h4
                     clear h2 h3 h4
                     go_wp2
                     go_ret
                     exact ⟨ret_int (by rw [HF.out.out]),(Up.via hJ.out.1.1)⟩
                   · have h4b:decide (p2<p1)=false:=by simpa using h4
                     have h5b:decide (500000<p2)=true:=by simp;omega
                     clear h2 h3 h4
                     go_wp2
                     go_ret
                     exact ⟨ret_int (by rw [HF.out.out]),(Up.via hJ.out.1.1)⟩
               · have hR:=HP.out
                 rw [if_neg h1,if_neg h2] at hR
                 have HR:=hide hR
                 have h3b:decide (p1 < -500000)=false:=by simp;omega
                 have h4b:decide (p2<p1)=false:=by simp;omega
                 have h5b:decide (500000<p2)=false:=by simp;omega
                 clear hR h1 h2 HP
                 go_wp2
                 go_roundw
                 case rel=>exact ⟨q+1,p0,by go_num,by go_num,by omega,hide ⟨⟨(Up.via hJ.out.1.1),(Box.via hJ.out.1.2)⟩,by rw [hJ.out.2,HR.out]⟩⟩
                 case measure=>simp [intOf];omega
           · have hqb:decide ((q:Int)<cn)=false:=by simp;omega
             have hqn:decide (q<cn)=false:=by simp;omega
             go_wp2
             go_ret
             refine ⟨ret_int ?_,(Up.via hJ.out.1.1)⟩
             rw [HE2.out,hJ.out.2,List.drop_eq_nil_of_le (by have:=HN.out.2;omega)]
             rfl
theorem firstI_some {α:Type} {F:α→Bool} {l:List α} {x:α} (h:l.find? F=some x):∃ k:Nat,firstI F l=k∧l[k]?=some x:=by
 obtain ⟨hF,i,hi,he,hj⟩:=List.find?_eq_some_iff_getElem.1 h
 refine ⟨i,firstI_found (p:=x) (fun j p hji hp=>?_) (by rw [List.getElem?_eq_getElem hi,he]) hF,by rw [List.getElem?_eq_getElem hi,he]⟩
 have:=hj j hji
 obtain ⟨hl,e⟩:=List.getElem?_eq_some_iff.1 hp
 rw [e] at this
 simpa using this
theorem firstI_no {α:Type} {F:α→Bool} {l:List α} (h:l.find? F=none):firstI F l = -1:=firstI_none fun i p _ hp=>by
 have:=List.find?_eq_none.1 h p (List.mem_of_getElem? hp)
 simpa using this
def stationV (s:SkyD) (id:Int):(Int×Int×Int)×Bool:=match s.stations.find? (fun x=>x.1==id) with
 | some x=>(x,true)
 | none=>((0,0,0),false)
theorem skstation1_any (p:Int×Int×Int) (id:Int) {b:Nat} {w:World} (hb:Box w b #[.int .i64 id] 3):Gives Tryz.prog 173 (#[.agg #[.int .i64 p.1,.int .i64 p.2.1,.int .i64 p.2.2]]++#[.pointer (some ⟨b,0,none⟩)]) w (.bool (p.1==id)):=by
 have c0:=hb.cell 0 rfl
 have lb:=hb.lt
 show Gives Tryz.prog 173 #[.agg #[.int .i64 p.1,.int .i64 p.2.1,.int .i64 p.2.2],.pointer (some ⟨b,0,none⟩)] w (.bool (p.1==id))
 clear hb
 (unfold Gives;go_enter Tryz.func173,Tryz.ntmps173)
 go_wp2
 go_ret
 exact ⟨rfl,Up.go⟩
theorem skstation_any {K:Nat→Prop} {w:World} {vb:Value} {a sa ca:Option Addr} {n c sn sc cn cc:Nat} {s:SkyD} {home:Int} (hs:Tris K w (.slice sa sn sc) s.stations) (id:Int) :
 Gives Tryz.prog 135 #[.agg #[.slice a n c,.int .i64 home,.slice sa sn sc,.slice ca cn cc],.int .i64 id] w (.tuple #[.agg #[.int .i64 ((stationV s id).1.1),.int .i64 ((stationV s id).1.2.1),.int .i64 ((stationV s id).1.2.2)],.bool (stationV s id).2]):=by
 have HX:=hide (fun W (hu:Up w W) (hb:Box W (w.heap.size+1) #[.int .i64 id] 3)=>ixsta_any 173 #[.pointer (some ⟨w.heap.size+1,0,none⟩)] (enters_of Tryz.func173 (by kernel_rfl) rfl) (fun x=>x.1==id) (hs.keeps (hu.keeps K)) (fun p W2 _ hu2=>skstation1_any p id (hb.up hu2)))
 have HS:=hide hs
 have hm:=(Tris.at hs).2.1
 have hn:=(Tris.at hs).1
 clear hs
 unfold stationV
 cases hf:s.stations.find? (fun x=>x.1==id) with
 | none =>
  rw [firstI_no hf] at HX
  clear hf hn
  dsimp only
  (unfold Gives;go_enter Tryz.func135,Tryz.ntmps135)
  go_wp2_with (go_at_call 132;refine (HX.out _ Up.go Box.go).mono ?_;intro _)
  (refine bodyPost_give Up.go rfl ⟨_,(by simp [results,Tryz.results135,go_sem];rfl),?_⟩)
  rfl
 | some x =>
  obtain ⟨k,hk,hx⟩:=firstI_some hf
  rw [hk] at HX
  have hkn:k<sn:=by have:=(List.getElem?_eq_some_iff.1 hx).1;omega
  have hkb:decide ((k:Int)<0)=false:=by simp
  have HXX:=hide hx
  clear hf hk hn hx
  dsimp only
  obtain ⟨b0,o0,p,ea,_,hb0,hp,hI,d0,d1,d2⟩:=(Tris.at HS.out).2.2 k hkn
  rw [HXX.out] at hp
  cases hp
  subst ea
  have HI:=hide hI
  clear hI
  obtain ⟨x0,x1,x2⟩:=x
  dsimp only at d0 d1 d2 ⊢
  (unfold Gives;go_enter Tryz.func135,Tryz.ntmps135)
  go_wp2_with fail
  go_at_call 132
  refine forgetK (fun V=>Up w V∧Box V w.heap.size #[.slice a n c,.int .i64 home,.slice (some ⟨b0,o0,none⟩) sn sc,.slice ca cn cc] 29∧Box V (w.heap.size+1) #[.int .i64 id] 3∧Box V (w.heap.size+1+1) #[.int .i64 (0),.int .i64 (0),.int .i64 (0)] 112) ⟨Up.go,Box.go,Box.go,Box.go⟩ ?_
  rintro V ⟨hu,bs,bi,bz⟩
  refine (HX.out V hu bi).mono ?_
  intro px
  have up:∀ {q j:Nat} {v:Value},q<w.heap.size→w.cell? ⟨q,j,none⟩=some v→V.cell? ⟨q,j,none⟩=some v:=fun {q j v} hq hv=>(World.cell?_of_block (a:=⟨q,j,none⟩) (hu.below.block q hq)).trans hv
  have e0:=up hb0 d0
  have e1:=up hb0 d1
  have e2:=up hb0 d2
  have x2':=bs.cell 2 rfl
  have lx:=bs.lt
  have lb0:b0<V.heap.size:=Nat.lt_of_lt_of_le hb0 hu.below.size
  obtain ⟨zc0,zc1,zc2⟩:=bz.c3
  have lz:=bz.lt
  obtain ⟨fz0,fz1,fz2⟩:=bz.f3
  have HB:=hide (And.intro hu bz)
  clear d0 d1 d2 hb0 up hu bs bi bz
  go_wp2_with fail
  refine forgetW (fun WF=>Up w WF∧Box WF (w.heap.size+1+1) #[.int .i64 (x0),.int .i64 (x1),.int .i64 (x2)] 112) ⟨(by repeat (first|with_reducible exact HB.out.1|with_reducible apply Up.ext|with_reducible apply Up.alloc|with_reducible apply Up.drew|(with_reducible refine Up.setCell ?_ (by simp only;omega) _))),?_⟩ ?_
  · exact (by (repeat (first|with_reducible apply Box.ext|with_reducible apply Box.alloc|with_reducible apply Box.drew));first|exact ((HB.out.2.set 0 (.int .i64 x0)).set 1 (.int .i64 x1)).set 2 (.int .i64 x2)|exact (((HB.out.2.ext px).set 0 (.int .i64 x0)).set 1 (.int .i64 x1)).set 2 (.int .i64 x2))
  rintro WF ⟨huF,hbF⟩
  obtain ⟨z0,z1,z2⟩:=hbF.c3
  (refine bodyPost_give huF rfl ⟨_,(by simp [results,Tryz.results135,go_sem,z0,z1,z2];rfl),?_⟩)
  rfl
theorem skwhere_any {K:Nat→Prop} {w:World} {a sa ca:Option Addr} {n c sn sc cn cc:Nat} {s:SkyD} (hb:Bods K w (.slice a n c) s.bodies) (hh:I64 s.home) (hs:Tris K w (.slice sa sn sc) s.stations) (hc:Tris K w (.slice ca cn cc) s.catalogs) (id t:Int) :
 Gives Tryz.prog 93 #[.agg #[.slice a n c,.int .i64 s.home,.slice sa sn sc,.slice ca cn cc],.int .i64 id,.int .i64 t] w (.tuple #[.agg #[.int .i64 ((whereV s id t).1),.int .i64 ((whereV s id t).2.1)],.bool (whereV s id t).2.2]):=by
 have HC:=hide (fun W (hu:Up w W)=>skcheck_any (hb.keeps (hu.keeps K)) hh (hs.keeps (hu.keeps K)) (hc.keeps (hu.keeps K)))
 have HW:=hide (fun W=>skwithin_any t 0 1073741824 W)
 have HST:=hide (fun W (hu:Up w W)=>skstation_any (vb:=.nilIface) (a:=a) (n:=n) (c:=c) (ca:=ca) (cn:=cn) (cc:=cc) (home:=s.home) (hs.keeps (hu.keeps K)) id)
 unfold whereV
 by_cases he:skyE s=0
 rotate_left
 · rw [if_neg (by simp [he])]
   have heb:(skyE s != 0)=true:=by simp [he]
   generalize skyE s=e at *
   generalize s.home=home at *
   clear hb hs hc he HST
   (unfold Gives;go_enter Tryz.func93,Tryz.ntmps93)
   go_wp2_with (first|(go_at_call 42;refine (HC.out _ Up.go).mono ?_;intro _)|(go_at_call 129;refine (HW.out _).mono ?_;intro _))
   (refine bodyPost_give Up.go rfl ⟨_,(by simp [results,Tryz.results93,go_sem];rfl),?_⟩)
   rfl
 rw [he] at HC
 by_cases ht:withinB t 0 1073741824=true
 rotate_left
 · rw [if_neg (by simp [ht])]
   rw [show withinB t 0 1073741824=false by simpa using ht] at HW
   generalize s.home=home at *
   clear hb hs hc he HST ht
   (unfold Gives;go_enter Tryz.func93,Tryz.ntmps93)
   go_wp2_with (first|(go_at_call 42;refine (HC.out _ Up.go).mono ?_;intro _)|(go_at_call 129;refine (HW.out _).mono ?_;intro _))
   (refine bodyPost_give Up.go rfl ⟨_,(by simp [results,Tryz.results93,go_sem];rfl),?_⟩)
   rfl
 rw [if_pos ⟨he,ht⟩]
 rw [ht] at HW
 unfold stationV at HST
 obtain ⟨hw,_⟩:=skyE_zero he
 obtain ⟨_,_,hbe,h0,h1⟩:=worldE_zero hw
 obtain ⟨j,hj⟩:=Int.eq_ofNat_of_zero_le h0
 have hn:=(Bods.at hb).1
 have hjn:j<n:=by omega
 obtain ⟨b0,o0,b,ta,tn,tc,ea,_,hb0,hbk,_,d0,d1,d2,hT⟩:=(Bods.at hb).2.2 j hjn
 subst ea
 have hbm:=hbe b (List.mem_of_getElem? hbk)
 obtain ⟨_,_,htl,_,_⟩:=bodyE_zero hbm
 have htn:=(Vecs.at hT).1
 have ht2:0≤t∧t≤1073741824:=by simpa [withinB] using ht
 have HTR:=hide (fun W (hu:Up w W)=>sktrack_any (t:=t) (hT.keeps (hu.keeps K)) (by omega) (by omega) (by omega))
 have hbd:=(bodyE_zero hbm).2.2.2.2 _ (placeV_mem htl t)
 have hph:s.bodies[s.home.toNat]?=some b:=by rw [hj];exact hbk
 rw [hph]
 have hst:=(skyE_zero he).2.2.1
 cases hf:s.stations.find? (fun x=>x.1==id) with
 | none =>
  rw [hf] at HST
  dsimp only at HST ⊢
  generalize s.home=home at *
  clear hb hs hc he ht hw hbe h0 h1 hj hn hjn hb0 hbk d0 d1 d2 hT hbm htl htn ht2 HTR hbd hph hst hf
  (unfold Gives;go_enter Tryz.func93,Tryz.ntmps93)
  go_wp2_with (first|(go_at_call 42;refine (HC.out _ Up.go).mono ?_;intro _)|(go_at_call 129;refine (HW.out _).mono ?_;intro _)|(go_at_call 135;refine (HST.out _ Up.go).mono ?_;intro _))
  (refine bodyPost_give Up.go rfl ⟨_,(by simp [results,Tryz.results93,go_sem];rfl),?_⟩)
  rfl
 | some x =>
  rw [hf] at HST
  have hxm:=stationsE_mem _ _ x hst (List.mem_of_find?_eq_some hf)
  obtain ⟨x0,x1,x2⟩:=x
  dsimp only at HST hxm ⊢
  unfold placeV at hbd ⊢
  generalize b.track.getD (t % (b.track.length:Int)).toNat (0,0)=P at *
  obtain ⟨P1,P2⟩:=P
  dsimp only at HTR hbd ⊢
  rw [hj] at HC HST ⊢
  have hjb:decide ((j:Int)<0)=false:=by simp
  have HP:=hide (And.intro d0 (And.intro d1 (And.intro d2 hb0)))
  clear hb hs hc he ht hw hbe h0 h1 hj hn hbk hT hbm htl htn ht2 hph hst hf d0 d1 d2
  (unfold Gives;go_enter Tryz.func93,Tryz.ntmps93)
  go_wp2_with fail
  go_at_call 42
  refine (HC.out _ Up.go).mono ?_
  intro p1
  go_wp2_with fail
  go_at_call 129
  refine (HW.out _).mono ?_
  intro p2
  go_wp2_with fail
  go_at_call 135
  refine forgetK (fun V=>Up w V∧Box V w.heap.size #[.slice (some ⟨b0,o0,none⟩) n c,.int .i64 j,.slice sa sn sc,.slice ca cn cc] 29∧Box V (w.heap.size+1) #[.int .i64 (0),.int .i64 (0)] 48) ⟨Up.go,Box.go,Box.go⟩ ?_
  rintro V ⟨hu,bs,bz⟩
  refine (HST.out V hu).mono ?_
  intro p3
  have e2:V.cell? ⟨b0,o0+j*3+2,none⟩=some (.slice ta tn tc):=(World.cell?_of_block (a:=⟨b0,o0+j*3+2,none⟩) (hu.below.block b0 HP.out.2.2.2)).trans HP.out.2.2.1
  have lb0:b0<V.heap.size:=Nat.lt_of_lt_of_le HP.out.2.2.2 hu.below.size
  obtain ⟨x0',x1'⟩:=bs.c2
  have lx:=bs.lt
  have HB:=hide (And.intro hu bz)
  clear hu bs bz hb0
  go_wp2_with fail
  go_at_call 136
  obtain ⟨Q8,hQ8⟩:∃ T,V.heap.size+p3.os.size=T:=⟨_,rfl⟩
  try rw [hQ8]
  refine forgetK (fun Y=>Up w Y∧Box Y (w.heap.size+1) #[.int .i64 (0),.int .i64 (0)] 48∧Box Y Q8 #[.int .i64 (x0),.int .i64 (x1),.int .i64 (x2)] 112) ⟨(by repeat (first|with_reducible exact HB.out.1|with_reducible apply Up.ext|with_reducible apply Up.alloc|with_reducible apply Up.drew|(with_reducible refine Up.setCell ?_ (by simp only;omega) _))),(Box.viz HB.out.2),by rw [← hQ8];exact Box.go⟩ ?_
  rintro Y ⟨hu,bz,b8⟩
  have hQl:w.heap.size+1<Q8:=by have:=HB.out.2.lt;omega
  refine (HTR.out _ hu).mono ?_
  intro p4
  obtain ⟨zc0,zc1⟩:=bz.c2
  have lz:=bz.lt
  obtain ⟨fz0,fz1⟩:=bz.f2
  obtain ⟨yc0,yc1,yc2⟩:=b8.c3
  have ly:=b8.lt
  have HB2:=hide (And.intro hu bz)
  clear HB x0' x1' lx e2 lb0 hu bz b8 hQ8
  go_wp2_with fail
  refine forgetW (fun WF=>Up w WF∧Box WF (w.heap.size+1) #[.int .i64 (P1+x1),.int .i64 (P2+x2)] 48) ⟨(by repeat (first|with_reducible exact HB2.out.1|with_reducible apply Up.ext|with_reducible apply Up.alloc|with_reducible apply Up.drew|(with_reducible refine Up.setCell ?_ (by simp only;omega) _))),?_⟩ ?_
  · exact (by (repeat (first|with_reducible apply Box.ext|with_reducible apply Box.alloc|with_reducible apply Box.drew));first|exact (HB2.out.2.set 0 (.int .i64 (P1+x1))).set 1 (.int .i64 (P2+x2))|exact ((HB2.out.2.ext p4).set 0 (.int .i64 (P1+x1))).set 1 (.int .i64 (P2+x2))|exact (((HB2.out.2.ext p4).alloc _).set 0 (.int .i64 (P1+x1))).set 1 (.int .i64 (P2+x2)))
  rintro WF ⟨huF,hbF⟩
  obtain ⟨z0,z1⟩:=hbF.c2
  (refine bodyPost_give huF rfl ⟨_,(by simp [results,Tryz.results93,go_sem,z0,z1];rfl),?_⟩)
  rfl
theorem sstation_any {K:Nat→Prop} {w:World} {a sa ca:Option Addr} {n c sn sc cn cc:Nat} {l:List (Int×Int×Int)} {home:Int} (hs:Tris K w (.slice sa sn sc) l) (id:Int) :
 Gives Tryz.prog 125 #[.agg #[.slice a n c,.int .i64 home,.slice sa sn sc,.slice ca cn cc],.int .i64 id] w (.int .i64 (firstI (fun x=>x.1==id) l)):=by
 have HS:=hide hs
 have hm:=(Tris.at hs).2.1
 have HN:=hide (Tris.at hs).1
 clear hs
 (unfold Gives;go_enter Tryz.func125,Tryz.ntmps125)
 go_wp2_with fail
 refine forgetW (fun V=>Up w V∧Box V w.heap.size #[.slice a n c,.int .i64 home,.slice sa sn sc,.slice ca cn cc] 29) ⟨Up.go,Box.go⟩ ?_
 rintro V0 ⟨hu0,b0⟩
 have H0:=hide (show (Up w V0∧Box V0 w.heap.size #[.slice a n c,.int .i64 home,.slice sa sn sc,.slice ca cn cc] 29)∧noneYet (fun x:Int×Int×Int=>x.1==id) l 0 from ⟨⟨hu0,b0⟩,fun i p hi _=>by omega⟩)
 clear hu0 b0
 go_loopw [5] (fun s5 wr=>∃ k:Nat,s5=.int .i64 k∧k≤sn∧Hid ((Up w wr∧Box wr w.heap.size #[.slice a n c,.int .i64 home,.slice sa sn sc,.slice ca cn cc] 29)∧noneYet (fun x:Int×Int×Int=>x.1==id) l k)) (fun q _=>sn - (intOf q).toNat)
 case atStart=>exact ⟨0,by go_num,by omega,H0⟩
 case round =>
  obtain ⟨k,rfl,hk,hJ⟩:=hrel
  clear H0
  have x2:=hJ.out.1.2.cell 2 rfl
  have lx:=hJ.out.1.2.lt
  by_cases hlt:k<sn
  · have hkb:decide ((k:Int)<sn)=true:=by simp;omega
    have hkn:decide (k<sn)=true:=by simp;omega
    obtain ⟨b0,o0,p,ea,_,hb0,hp,hI,d0,d1,d2⟩:=(Tris.at (HS.out.keeps (hJ.out.1.1.keeps K))).2.2 k hlt
    subst ea
    have HP:=hide hp
    clear hp hI
    obtain ⟨p0,p1,p2⟩:=p
    dsimp only at d0 d1 d2
    by_cases h1:p0=id
    · have h1b:(p0==id)=true:=by simpa using h1
      have HF:=hide (show firstI (fun x:Int×Int×Int=>x.1==id) l=k from firstI_found hJ.out.2 HP.out h1b)
      clear h1
      go_wp2
      go_ret
      exact ⟨ret_int (by rw [HF.out]),(Up.via hJ.out.1.1)⟩
    · have h1b:(p0==id)=false:=by simpa using h1
      have HF:=hide (hJ.out.2.succ HP.out h1b)
      replace h1:=hide h1
      go_wp2
      go_roundw
      case rel=>exact ⟨k+1,by go_num,by omega,hide ⟨⟨(Up.via hJ.out.1.1),(Box.via hJ.out.1.2)⟩,HF.out⟩⟩
      case measure=>simp [intOf];omega
  · have hkb:decide ((k:Int)<sn)=false:=by simp;omega
    have hkn:decide (k<sn)=false:=by simp;omega
    have HF:=hide (show firstI (fun x:Int×Int×Int=>x.1==id) l = -1 from firstI_none (by have:=hJ.out.2;rwa [show k=l.length by have:=HN.out;omega] at this))
    go_wp2
    go_ret
    exact ⟨ret_int (by rw [HF.out]),(Up.via hJ.out.1.1)⟩
theorem swhere0_any {K:Nat→Prop} {w:World} {a sa ca:Option Addr} {n c sn sc cn cc j i:Nat} {bs:List Bod} {l:List (Int×Int×Int)} {t:Int} {b:Bod} {x:Int×Int×Int} (hb:Bods K w (.slice a n c) bs) (hp:bs[j]?=some b) (he:bodyE b=0) (hs:Tris K w (.slice sa sn sc) l) (hx:l[i]?=some x) (t0:0≤t) (t1:t≤9223372036854775807)
 (hxb:(-1048576≤x.2.1∧x.2.1≤1048576) ∧ -1048576≤x.2.2∧x.2.2≤1048576) :
 Gives Tryz.prog 127 #[.agg #[.slice a n c,.int .i64 j,.slice sa sn sc,.slice ca cn cc],.int .i64 i,.int .i64 t] w (.agg #[.int .i64 ((placeV b t).1+x.2.1),.int .i64 ((placeV b t).2+x.2.2)]):=by
 have HA:=hide (fun W (hu:Up w W)=>sat_any (home:=j) (hb.keeps (hu.keeps K)) hp he t0 t1)
 have hbd:=(bodyE_zero he).2.2.2.2 _ (placeV_mem (bodyE_zero he).2.2.1 t)
 have hin:i<sn:=by have:=(Tris.at hs).1;have:=(List.getElem?_eq_some_iff.1 hx).1;omega
 have hsm:=(Tris.at hs).2.1
 obtain ⟨b0,o0,p,ea,_,hb0,hpp,_,d0,d1,d2⟩:=(Tris.at hs).2.2 i hin
 rw [hx] at hpp
 cases hpp
 subst ea
 obtain ⟨x0,x1,x2⟩:=x
 generalize placeV b t=P at *
 obtain ⟨P1,P2⟩:=P
 dsimp only at *
 have HP:=hide (And.intro hb0 (And.intro d1 d2))
 clear hb hp he hs hx d0 d1 d2
 (unfold Gives;go_enter Tryz.func127,Tryz.ntmps127)
 go_wp2_with fail
 go_at_call 152
 refine (HA.out _ Up.go).mono ?_
 intro p1
 go_wp2_with fail
 obtain ⟨Q,hQ⟩:∃ T,w.heap.size+1+1+p1.os.size=T:=⟨_,rfl⟩
 try rw [hQ]
 refine forgetW (fun V=>Up w V∧Box V w.heap.size #[.slice a n c,.int .i64 j,.slice (some ⟨b0,o0,none⟩) sn sc,.slice ca cn cc] 29∧Box V (w.heap.size+1) #[.int .i64 (0),.int .i64 (0)] 48∧Box V Q #[.int .i64 (P1),.int .i64 (P2)] 48) ⟨Up.go,Box.go,Box.go,by rw [← hQ];exact Box.go⟩ ?_
 rintro V ⟨hu,bs',bz,bq⟩
 clear hQ
 have s2:=bs'.cell 2 rfl
 have ls:=bs'.lt
 obtain ⟨z0,z1⟩:=bz.c2
 have lz:=bz.lt
 obtain ⟨fz0,fz1⟩:=bz.f2
 obtain ⟨q0,q1⟩:=bq.c2
 have lq:=bq.lt
 have e1:V.cell? ⟨b0,o0+i*3+1,none⟩=some (.int .i64 x1):=(World.cell?_of_block (a:=⟨b0,o0+i*3+1,none⟩) (hu.below.block b0 HP.out.1)).trans HP.out.2.1
 have e2:V.cell? ⟨b0,o0+i*3+2,none⟩=some (.int .i64 x2):=(World.cell?_of_block (a:=⟨b0,o0+i*3+2,none⟩) (hu.below.block b0 HP.out.1)).trans HP.out.2.2
 have lb0:b0<V.heap.size:=Nat.lt_of_lt_of_le HP.out.1 hu.below.size
 have HB:=hide (And.intro hu bz)
 clear hu bs' bz bq
 ((first | with_reducible refine wp_region_ext_tail2 1 (by kernel_rfl) (by kernel_rfl) ?_ | refine wp_region_ext_tail 1 (by kernel_rfl) (by kernel_rfl) ?_);simp only [List.length_cons,List.length_nil,Nat.reduceAdd,Nat.reduceSub,List.take_succ_cons,List.take_zero,List.drop_succ_cons,List.drop_zero];(repeat (go_big_quiet_step (fail)));refine wpQuiet_nil ?_;intro _ hw';obtain ⟨_,hw''⟩:=hw';subst hw'')
 go_wp2_with fail
 refine forgetW (fun WF=>Up w WF∧Box WF (w.heap.size+1) #[.int .i64 (P1+x1),.int .i64 (P2+x2)] 48) ⟨(by repeat (first|with_reducible exact HB.out.1|with_reducible apply Up.ext|with_reducible apply Up.alloc|with_reducible apply Up.drew|(with_reducible refine Up.setCell ?_ (by simp only;omega) _))),?_⟩ ?_
 · exact (by (repeat (first|with_reducible apply Box.ext|with_reducible apply Box.alloc|with_reducible apply Box.drew));exact (HB.out.2.set 0 (.int .i64 (P1+x1))).set 1 (.int .i64 (P2+x2)))
 rintro WF ⟨huF,hbF⟩
 obtain ⟨w0,w1⟩:=hbF.c2
 (refine bodyPost_give huF rfl ⟨_,(by simp [results,Tryz.results127,go_sem,w0,w1];rfl),?_⟩)
 rfl
theorem sWhere_any {K:Nat→Prop} {w:World} {a sa ca:Option Addr} {n c sn sc cn cc:Nat} {s:SkyD} (hb:Bods K w (.slice a n c) s.bodies) (hh:I64 s.home) (hs:Tris K w (.slice sa sn sc) s.stations) (hc:Tris K w (.slice ca cn cc) s.catalogs) (id t:Int) :
 Gives Tryz.prog 80 #[.agg #[.slice a n c,.int .i64 s.home,.slice sa sn sc,.slice ca cn cc],.int .i64 id,.int .i64 t] w (.tuple #[.agg #[.int .i64 ((whereV s id t).1),.int .i64 ((whereV s id t).2.1)],.bool (whereV s id t).2.2]):=by
 have HC:=hide (fun W (hu:Up w W)=>scheck_any (hb.keeps (hu.keeps K)) hh (hs.keeps (hu.keeps K)) (hc.keeps (hu.keeps K)))
 have HW:=hide (fun W=>sbetween_any t 0 1073741824 W)
 have HST:=hide (fun W (hu:Up w W)=>sstation_any (a:=a) (n:=n) (c:=c) (ca:=ca) (cn:=cn) (cc:=cc) (home:=s.home) (hs.keeps (hu.keeps K)) id)
 unfold whereV
 by_cases he:skyE s=0
 rotate_left
 · rw [if_neg (by simp [he])]
   have heb:(skyE s != 0)=true:=by simp [he]
   generalize skyE s=e at *
   generalize s.home=home at *
   clear hb hs hc he HST
   (unfold Gives;go_enter Tryz.func80,Tryz.ntmps80)
   go_wp2_with (go_at_call 103;refine (HC.out _ Up.go).mono ?_;intro _)
   (refine bodyPost_give Up.go rfl ⟨_,(by simp [results,Tryz.results80,go_sem];rfl),?_⟩)
   rfl
 rw [he] at HC
 have hst:=(skyE_zero he).2.2.1
 cases hf:s.stations.find? (fun x=>x.1==id) with
 | none =>
  rw [firstI_no hf] at HST
  rw [show (if skyE s=0∧withinB t 0 1073741824=true then (match (none:Option (Int×Int×Int)),s.bodies[s.home.toNat]? with | some x,some b=>((placeV b t).1+x.2.1,(placeV b t).2+x.2.2,true) | _,_=>(0,0,false)) else (0,0,false))=(0,0,false) by split <;> rfl]
  generalize s.home=home at *
  clear hb hs hc he hst hf
  (unfold Gives;go_enter Tryz.func80,Tryz.ntmps80)
  go_wp2_with (first|(go_at_call 103;refine (HC.out _ Up.go).mono ?_;intro _)|(go_at_call 125;refine (HST.out _ Up.go).mono ?_;intro _))
  (refine bodyPost_give Up.go rfl ⟨_,(by simp [results,Tryz.results80,go_sem];rfl),?_⟩)
  rfl
 | some x =>
  obtain ⟨k,hk,hxk⟩:=firstI_some hf
  rw [hk] at HST
  have hkb:decide ((k:Int)<0)=false:=by simp
  by_cases ht:withinB t 0 1073741824=true
  rotate_left
  · rw [if_neg (by simp [ht])]
    rw [show withinB t 0 1073741824=false by simpa using ht] at HW
    generalize s.home=home at *
    clear hb hs hc he hst hf hk hxk ht
    (unfold Gives;go_enter Tryz.func80,Tryz.ntmps80)
    go_wp2_with (first|(go_at_call 103;refine (HC.out _ Up.go).mono ?_;intro _)|(go_at_call 125;refine (HST.out _ Up.go).mono ?_;intro _)|(go_at_call 126;refine (HW.out _).mono ?_;intro _))
    (refine bodyPost_give Up.go rfl ⟨_,(by simp [results,Tryz.results80,go_sem];rfl),?_⟩)
    rfl
  rw [if_pos ⟨he,ht⟩]
  rw [ht] at HW
  obtain ⟨hw,_⟩:=skyE_zero he
  obtain ⟨_,_,hbe,h0,h1⟩:=worldE_zero hw
  obtain ⟨j,hj⟩:=Int.eq_ofNat_of_zero_le h0
  have hjn:j<s.bodies.length:=by omega
  have hph:s.bodies[s.home.toNat]?=some s.bodies[j]:=by rw [hj];exact List.getElem?_eq_getElem hjn
  have ht2:0≤t∧t≤1073741824:=by simpa [withinB] using ht
  have hxm:=stationsE_mem _ _ x hst (List.mem_of_find?_eq_some hf)
  have HWH:=hide (fun W (hu:Up w W)=>swhere0_any (t:=t) (ca:=ca) (cn:=cn) (cc:=cc) (hb.keeps (hu.keeps K)) (List.getElem?_eq_getElem hjn) (hbe _ (List.getElem_mem hjn)) (hs.keeps (hu.keeps K)) hxk (by omega) (by omega) hxm)
  rw [hph]
  dsimp only
  rw [hj] at HC HST ⊢
  generalize (placeV s.bodies[j] t).1+x.2.1=X at *
  generalize (placeV s.bodies[j] t).2+x.2.2=Y at *
  clear hb hs hc he hst hf hk hxk ht hw hbe h0 h1 hj hph ht2 hxm hh
  (unfold Gives;go_enter Tryz.func80,Tryz.ntmps80)
  go_wp2_with (first|(go_at_call 103;refine (HC.out _ Up.go).mono ?_;intro _)|(go_at_call 125;refine (HST.out _ Up.go).mono ?_;intro _)|(go_at_call 126;refine (HW.out _).mono ?_;intro _))
  refine forgetW (fun V=>Up w V∧Box V w.heap.size #[.slice a n c,.int .i64 j,.slice sa sn sc,.slice ca cn cc] 29∧Box V (w.heap.size+1) #[.int .i64 (0),.int .i64 (0)] 48) ⟨Up.go,Box.go,Box.go⟩ ?_
  rintro V ⟨hu,bs',bz⟩
  obtain ⟨s0,s1,s2,s3⟩:=bs'.c4
  have ls:=bs'.lt
  obtain ⟨z0,z1⟩:=bz.c2
  have lz:=bz.lt
  obtain ⟨fz0,fz1⟩:=bz.f2
  have HB:=hide (And.intro hu bz)
  clear hu bs' bz
  ((first | with_reducible refine wp_region_ext_tail2 2 (by kernel_rfl) (by kernel_rfl) ?_ | refine wp_region_ext_tail 2 (by kernel_rfl) (by kernel_rfl) ?_);simp only [List.length_cons,List.length_nil,Nat.reduceAdd,Nat.reduceSub,List.take_succ_cons,List.take_zero,List.drop_succ_cons,List.drop_zero];(repeat (go_big_quiet_step ((first | (go_at_call 125;with_reducible exact Gives.inRegion (HST.out _ (HB.out.1.ext _))) | (go_at_call 127;with_reducible exact Gives.inRegion (HWH.out _ (HB.out.1.ext _)))))));refine wpQuiet_nil ?_;intro _ hw';obtain ⟨_,hw''⟩:=hw';subst hw'')
  go_wp2_with fail
  refine forgetW (fun WF=>Up w WF∧Box WF (w.heap.size+1) #[.int .i64 (X),.int .i64 (Y)] 48) ⟨(by repeat (first|with_reducible exact HB.out.1|with_reducible apply Up.ext|with_reducible apply Up.alloc|with_reducible apply Up.drew|(with_reducible refine Up.setCell ?_ (by simp only;omega) _))),?_⟩ ?_
  · exact (by (repeat (first|with_reducible apply Box.ext|with_reducible apply Box.alloc|with_reducible apply Box.drew));exact (HB.out.2.set 0 (.int .i64 X)).set 1 (.int .i64 Y))
  rintro WF ⟨huF,hbF⟩
  obtain ⟨w0,w1⟩:=hbF.c2
  (refine bodyPost_give huF rfl ⟨_,(by simp [results,Tryz.results80,go_sem,w0,w1];rfl),?_⟩)
  rfl
theorem wwithin_any (n lo hi:Int) (w:World):Gives Tryz.prog 45 #[.int .i64 n,.int .i64 lo,.int .i64 hi] w (.bool (withinB n lo hi)):=by
 unfold withinB
 (unfold Gives;go_enter Tryz.func45,Tryz.ntmps45)
 go_wp2
 all_goals (go_ret;refine ⟨?_,Up.go⟩)
 all_goals (go_light;first|(simp_all [withinB];done)|(simp_all [withinB];omega)|(simp_all [withinB];repeat' split;all_goals (first|(simp_all;done)|omega|(simp_all;omega))))
abbrev offA (o:OffD):Array Value:=#[.int .i64 o.kind,.int .i64 o.station,.int .i64 o.catalog,.int .i64 o.tick,.int .i64 o.dx,.int .i64 o.dy,.int .i64 o.err,.int .i64 o.far,.int .i64 o.wide,.int .i64 o.cost,.bool o.sure]
def offF (e:Int) (k1 k2 T1 S1 T2 T3 T4 C1 T5 T6 Z T7:Bool):Int :=
 if e≠0 then e else if (k1 || k2)=false then 4 else if T1=false then 2 else if S1=false then 7 else if T2=false then 2 else if T3=false then 2 else if T4=false then 2
 else if k2=true then 0 else if C1=false then 7 else if T5=false then 2 else if T6=false then 2 else if Z=true then 2 else if T7=false then 2 else 0
theorem offF_eq (s:SkyD) (o:OffD):offF (skyE s) (o.kind==1) (o.kind==2) (withinB o.tick 0 1073741824) (s.stations.any fun x=>x.1==o.station) (withinB o.err 0 500000) (withinB o.far 1 134217728) (withinB o.cost 0 1000)
 (s.catalogs.any fun x=>x.1==o.catalog) (withinB o.dx (-4096) 4096) (withinB o.dy (-4096) 4096) (o.dx==0&&o.dy==0) (withinB o.wide 0 1000000)=offE s o:=by
 unfold offE offE0 offF
 by_cases he:skyE s=0
 · rw [if_neg (by simp [he]),if_pos he]
   generalize withinB o.tick 0 1073741824=T1
   generalize (s.stations.any fun x=>x.1==o.station)=S1
   generalize withinB o.err 0 500000=T2
   generalize withinB o.far 1 134217728=T3
   generalize withinB o.cost 0 1000=T4
   generalize (s.catalogs.any fun x=>x.1==o.catalog)=C1
   generalize withinB o.dx (-4096) 4096=T5
   generalize withinB o.dy (-4096) 4096=T6
   generalize (o.dx==0&&o.dy==0)=Z
   generalize withinB o.wide 0 1000000=T7
   have hk:((o.kind==1 || o.kind==2)=false)=(o.kind≠1∧o.kind≠2):=by simp
   have hk2:((o.kind==2)=true)=(o.kind=2):=by simp
   simp only [hk,hk2]
   cases T1 <;> cases S1 <;> cases T2 <;> cases T3 <;> cases T4 <;> cases C1 <;> cases T5 <;> cases T6 <;> cases Z <;> cases T7 <;> simp
 · rw [if_pos he,if_neg he]
theorem wco1_any (p:Int×Int×Int) (o:OffD) {b:Nat} {w:World} (hb:Box w b (offA o) 50):Gives Tryz.prog 87 (#[.agg #[.int .i64 p.1,.int .i64 p.2.1,.int .i64 p.2.2]]++#[.pointer (some ⟨b,0,none⟩)]) w (.bool (p.1==o.station)):=by
 have c0:=hb.cell 1 rfl
 have lb:=hb.lt
 show Gives Tryz.prog 87 #[.agg #[.int .i64 p.1,.int .i64 p.2.1,.int .i64 p.2.2],.pointer (some ⟨b,0,none⟩)] w (.bool (p.1==o.station))
 clear hb
 (unfold Gives;go_enter Tryz.func87,Tryz.ntmps87)
 go_wp2
 go_ret
 exact ⟨rfl,Up.go⟩
theorem wco2_any (p:Int×Int×Int) (o:OffD) {b:Nat} {w:World} (hb:Box w b (offA o) 50):Gives Tryz.prog 89 (#[.agg #[.int .i64 p.1,.int .i64 p.2.1,.int .i64 p.2.2]]++#[.pointer (some ⟨b,0,none⟩)]) w (.bool (p.1==o.catalog)):=by
 have c0:=hb.cell 2 rfl
 have lb:=hb.lt
 show Gives Tryz.prog 89 #[.agg #[.int .i64 p.1,.int .i64 p.2.1,.int .i64 p.2.2],.pointer (some ⟨b,0,none⟩)] w (.bool (p.1==o.catalog))
 clear hb
 (unfold Gives;go_enter Tryz.func89,Tryz.ntmps89)
 go_wp2
 go_ret
 exact ⟨rfl,Up.go⟩
theorem wcheck_any {K:Nat→Prop} {w:World} {a sa ca:Option Addr} {n c sn sc cn cc:Nat} {s:SkyD} (hb:Bods K w (.slice a n c) s.bodies) (hh:I64 s.home) (hs:Tris K w (.slice sa sn sc) s.stations) (hc:Tris K w (.slice ca cn cc) s.catalogs) (o:OffD) :
 Gives Tryz.prog 44 #[.agg #[.slice a n c,.int .i64 s.home,.slice sa sn sc,.slice ca cn cc],.agg (offA o)] w (.int .i64 (offE s o)):=by
 have HC:=hide (fun W (hu:Up w W)=>skcheck_any (hb.keeps (hu.keeps K)) hh (hs.keeps (hu.keeps K)) (hc.keeps (hu.keeps K)))
 have HS:=hide (fun W (hu:Up w W) (hx:Box W (w.heap.size+1) (offA o) 50)=>anysta_any 87 #[.pointer (some ⟨w.heap.size+1,0,none⟩)] (enters_of Tryz.func87 (by kernel_rfl) rfl) (fun x=>x.1==o.station) (hs.keeps (hu.keeps K)) (fun p W2 _ hu2=>wco1_any p o (hx.up hu2)))
 have HK:=hide (fun W (hu:Up w W) (hx:Box W (w.heap.size+1) (offA o) 50)=>anycat_any 89 #[.pointer (some ⟨w.heap.size+1,0,none⟩)] (enters_of Tryz.func89 (by kernel_rfl) rfl) (fun x=>x.1==o.catalog) (hc.keeps (hu.keeps K)) (fun p W2 _ hu2=>wco2_any p o (hx.up hu2)))
 have HW:=hide (fun n lo hi W=>wwithin_any n lo hi W)
 rw [← offF_eq]
 obtain ⟨kd,st,ct,tk,dx,dy,er,fr,wd,co,su⟩:=o
 dsimp only at HS HK ⊢
 generalize skyE s=e at *
 generalize s.home=home at *
 have HW1:=hide (fun W=>HW.out tk 0 1073741824 W)
 have HW2:=hide (fun W=>HW.out er 0 500000 W)
 have HW3:=hide (fun W=>HW.out fr 1 134217728 W)
 have HW4:=hide (fun W=>HW.out co 0 1000 W)
 have HW5:=hide (fun W=>HW.out dx (-4096) 4096 W)
 have HW6:=hide (fun W=>HW.out dy (-4096) 4096 W)
 have HW7:=hide (fun W=>HW.out wd 0 1000000 W)
 generalize withinB tk 0 1073741824=T1 at HW1 ⊢
 generalize (s.stations.any fun x=>x.1==st)=S1 at HS ⊢
 generalize withinB er 0 500000=T2 at HW2 ⊢
 generalize withinB fr 1 134217728=T3 at HW3 ⊢
 generalize withinB co 0 1000=T4 at HW4 ⊢
 generalize (s.catalogs.any fun x=>x.1==ct)=C1 at HK ⊢
 generalize withinB dx (-4096) 4096=T5 at HW5 ⊢
 generalize withinB dy (-4096) 4096=T6 at HW6 ⊢
 generalize withinB wd 0 1000000=T7 at HW7 ⊢
 clear hb hs hc HW
 (unfold Gives;go_enter Tryz.func44,Tryz.ntmps44)
 go_wp2_with fail
 go_at_call 42
 refine forgetK (fun V=>Up w V∧Box V w.heap.size #[.slice a n c,.int .i64 home,.slice sa sn sc,.slice ca cn cc] 29∧Box V (w.heap.size+1) #[.int .i64 kd,.int .i64 st,.int .i64 ct,.int .i64 tk,.int .i64 dx,.int .i64 dy,.int .i64 er,.int .i64 fr,.int .i64 wd,.int .i64 co,.bool su] 50) ⟨Up.go,Box.go,Box.go⟩ ?_
 rintro V1 ⟨hu1,bx1,by1⟩
 have HB1:=hide (And.intro hu1 (And.intro bx1 by1))
 refine (HC.out _ hu1).mono ?_
 intro p1
 obtain ⟨x0,x1,x2,x3⟩:=bx1.c4
 obtain ⟨y0,y1,y2,y3,y4,y5,y6,y7,y8,y9,y10⟩:=by1.c11
 have lx:=bx1.lt
 have ly:=by1.lt
 clear hu1 bx1 by1
 by_cases he:e=0
 rotate_left
 · have heb:(e != 0)=true:=by simp [he]
   replace he:=hide he
   go_wp2
   go_ret
   exact ⟨ret_int (by simp [offF,he.out]),(Up.viz HB1.out.1)⟩
 subst he
 by_cases hk:kd≠1∧kd≠2
 · have h1:(kd==1)=false:=by simp [hk.1]
   have h2:(kd==2)=false:=by simp [hk.2]
   have h1n:(kd != 1)=true:=by simp [hk.1]
   have h2n:(kd != 2)=true:=by simp [hk.2]
   clear hk
   go_wp2
   go_ret
   exact ⟨ret_int (by simp [offF,h1,h2]),(Up.viz HB1.out.1)⟩
 rcases (show kd=1∨kd=2 by omega) with rfl | rfl
 · go_wp2_with fail
   go_at_call 45
   refine forgetK (fun V=>Up w V∧Box V w.heap.size #[.slice a n c,.int .i64 home,.slice sa sn sc,.slice ca cn cc] 29∧Box V (w.heap.size+1) #[.int .i64 1,.int .i64 st,.int .i64 ct,.int .i64 tk,.int .i64 dx,.int .i64 dy,.int .i64 er,.int .i64 fr,.int .i64 wd,.int .i64 co,.bool su] 50) ⟨(Up.viz HB1.out.1),(Box.viz HB1.out.2.1),(Box.viz HB1.out.2.2)⟩ ?_
   rintro V2 ⟨hu2,bx2,by2⟩
   have HB2:=hide (And.intro hu2 (And.intro bx2 by2))
   clear HB1 x0 y0 x1 y1 x2 y2 x3 y3 y4 y5 y6 y7 y8 y9 y10 lx ly
   refine (HW1.out _).mono ?_
   intro p2
   obtain ⟨x0,x1,x2,x3⟩:=bx2.c4
   obtain ⟨y0,y1,y2,y3,y4,y5,y6,y7,y8,y9,y10⟩:=by2.c11
   have lx:=bx2.lt
   have ly:=by2.lt
   clear hu2 bx2 by2
   cases T1
   · go_wp2
     go_ret
     exact ⟨ret_int (by simp [offF]),(Up.viz HB2.out.1)⟩
   go_wp2_with fail
   go_at_call 86
   refine forgetK (fun V=>Up w V∧Box V w.heap.size #[.slice a n c,.int .i64 home,.slice sa sn sc,.slice ca cn cc] 29∧Box V (w.heap.size+1) #[.int .i64 1,.int .i64 st,.int .i64 ct,.int .i64 tk,.int .i64 dx,.int .i64 dy,.int .i64 er,.int .i64 fr,.int .i64 wd,.int .i64 co,.bool su] 50) ⟨(Up.viz HB2.out.1),(Box.viz HB2.out.2.1),(Box.viz HB2.out.2.2)⟩ ?_
   rintro V3 ⟨hu3,bx3,by3⟩
   have HB3:=hide (And.intro hu3 (And.intro bx3 by3))
   clear HB2 x0 y0 x1 y1 x2 y2 x3 y3 y4 y5 y6 y7 y8 y9 y10 lx ly
   refine (HS.out _ hu3 by3).mono ?_
   intro p3
   obtain ⟨x0,x1,x2,x3⟩:=bx3.c4
   obtain ⟨y0,y1,y2,y3,y4,y5,y6,y7,y8,y9,y10⟩:=by3.c11
   have lx:=bx3.lt
   have ly:=by3.lt
   clear hu3 bx3 by3
   cases S1
   · go_wp2
     go_ret
     exact ⟨ret_int (by simp [offF]),(Up.viz HB3.out.1)⟩
   go_wp2_with fail
   go_at_call 45
   refine forgetK (fun V=>Up w V∧Box V w.heap.size #[.slice a n c,.int .i64 home,.slice sa sn sc,.slice ca cn cc] 29∧Box V (w.heap.size+1) #[.int .i64 1,.int .i64 st,.int .i64 ct,.int .i64 tk,.int .i64 dx,.int .i64 dy,.int .i64 er,.int .i64 fr,.int .i64 wd,.int .i64 co,.bool su] 50) ⟨(Up.viz HB3.out.1),(Box.viz HB3.out.2.1),(Box.viz HB3.out.2.2)⟩ ?_
   rintro V4 ⟨hu4,bx4,by4⟩
   have HB4:=hide (And.intro hu4 (And.intro bx4 by4))
   clear HB3 x0 y0 x1 y1 x2 y2 x3 y3 y4 y5 y6 y7 y8 y9 y10 lx ly
   refine (HW2.out _).mono ?_
   intro p4
   obtain ⟨x0,x1,x2,x3⟩:=bx4.c4
   obtain ⟨y0,y1,y2,y3,y4,y5,y6,y7,y8,y9,y10⟩:=by4.c11
   have lx:=bx4.lt
   have ly:=by4.lt
   clear hu4 bx4 by4
   cases T2
   · go_wp2
     go_ret
     exact ⟨ret_int (by simp [offF]),(Up.viz HB4.out.1)⟩
   go_wp2_with fail
   go_at_call 45
   refine forgetK (fun V=>Up w V∧Box V w.heap.size #[.slice a n c,.int .i64 home,.slice sa sn sc,.slice ca cn cc] 29∧Box V (w.heap.size+1) #[.int .i64 1,.int .i64 st,.int .i64 ct,.int .i64 tk,.int .i64 dx,.int .i64 dy,.int .i64 er,.int .i64 fr,.int .i64 wd,.int .i64 co,.bool su] 50) ⟨(Up.viz HB4.out.1),(Box.viz HB4.out.2.1),(Box.viz HB4.out.2.2)⟩ ?_
   rintro V5 ⟨hu5,bx5,by5⟩
   have HB5:=hide (And.intro hu5 (And.intro bx5 by5))
   clear HB4 x0 y0 x1 y1 x2 y2 x3 y3 y4 y5 y6 y7 y8 y9 y10 lx ly
   refine (HW3.out _).mono ?_
   intro p5
   obtain ⟨x0,x1,x2,x3⟩:=bx5.c4
   obtain ⟨y0,y1,y2,y3,y4,y5,y6,y7,y8,y9,y10⟩:=by5.c11
   have lx:=bx5.lt
   have ly:=by5.lt
   clear hu5 bx5 by5
   cases T3
   · go_wp2
     go_ret
     exact ⟨ret_int (by simp [offF]),(Up.viz HB5.out.1)⟩
   go_wp2_with fail
   go_at_call 45
   refine forgetK (fun V=>Up w V∧Box V w.heap.size #[.slice a n c,.int .i64 home,.slice sa sn sc,.slice ca cn cc] 29∧Box V (w.heap.size+1) #[.int .i64 1,.int .i64 st,.int .i64 ct,.int .i64 tk,.int .i64 dx,.int .i64 dy,.int .i64 er,.int .i64 fr,.int .i64 wd,.int .i64 co,.bool su] 50) ⟨(Up.viz HB5.out.1),(Box.viz HB5.out.2.1),(Box.viz HB5.out.2.2)⟩ ?_
   rintro V6 ⟨hu6,bx6,by6⟩
   have HB6:=hide (And.intro hu6 (And.intro bx6 by6))
   clear HB5 x0 y0 x1 y1 x2 y2 x3 y3 y4 y5 y6 y7 y8 y9 y10 lx ly
   refine (HW4.out _).mono ?_
   intro p6
   obtain ⟨x0,x1,x2,x3⟩:=bx6.c4
   obtain ⟨y0,y1,y2,y3,y4,y5,y6,y7,y8,y9,y10⟩:=by6.c11
   have lx:=bx6.lt
   have ly:=by6.lt
   clear hu6 bx6 by6
   cases T4
   · go_wp2
     go_ret
     exact ⟨ret_int (by simp [offF]),(Up.viz HB6.out.1)⟩
   go_wp2_with fail
   go_at_call 88
   refine forgetK (fun V=>Up w V∧Box V w.heap.size #[.slice a n c,.int .i64 home,.slice sa sn sc,.slice ca cn cc] 29∧Box V (w.heap.size+1) #[.int .i64 1,.int .i64 st,.int .i64 ct,.int .i64 tk,.int .i64 dx,.int .i64 dy,.int .i64 er,.int .i64 fr,.int .i64 wd,.int .i64 co,.bool su] 50) ⟨(Up.viz HB6.out.1),(Box.viz HB6.out.2.1),(Box.viz HB6.out.2.2)⟩ ?_
   rintro V7 ⟨hu7,bx7,by7⟩
   have HB7:=hide (And.intro hu7 (And.intro bx7 by7))
   clear HB6 x0 y0 x1 y1 x2 y2 x3 y3 y4 y5 y6 y7 y8 y9 y10 lx ly
   refine (HK.out _ hu7 by7).mono ?_
   intro p7
   obtain ⟨x0,x1,x2,x3⟩:=bx7.c4
   obtain ⟨y0,y1,y2,y3,y4,y5,y6,y7,y8,y9,y10⟩:=by7.c11
   have lx:=bx7.lt
   have ly:=by7.lt
   clear hu7 bx7 by7
   cases C1
   · go_wp2
     go_ret
     exact ⟨ret_int (by simp [offF]),(Up.viz HB7.out.1)⟩
   go_wp2_with fail
   go_at_call 45
   refine forgetK (fun V=>Up w V∧Box V w.heap.size #[.slice a n c,.int .i64 home,.slice sa sn sc,.slice ca cn cc] 29∧Box V (w.heap.size+1) #[.int .i64 1,.int .i64 st,.int .i64 ct,.int .i64 tk,.int .i64 dx,.int .i64 dy,.int .i64 er,.int .i64 fr,.int .i64 wd,.int .i64 co,.bool su] 50) ⟨(Up.viz HB7.out.1),(Box.viz HB7.out.2.1),(Box.viz HB7.out.2.2)⟩ ?_
   rintro V8 ⟨hu8,bx8,by8⟩
   have HB8:=hide (And.intro hu8 (And.intro bx8 by8))
   clear HB7 x0 y0 x1 y1 x2 y2 x3 y3 y4 y5 y6 y7 y8 y9 y10 lx ly
   refine (HW5.out _).mono ?_
   intro p8
   obtain ⟨x0,x1,x2,x3⟩:=bx8.c4
   obtain ⟨y0,y1,y2,y3,y4,y5,y6,y7,y8,y9,y10⟩:=by8.c11
   have lx:=bx8.lt
   have ly:=by8.lt
   clear hu8 bx8 by8
   cases T5
   · go_wp2
     go_ret
     exact ⟨ret_int (by simp [offF]),(Up.viz HB8.out.1)⟩
   go_wp2_with fail
   go_at_call 45
   refine forgetK (fun V=>Up w V∧Box V w.heap.size #[.slice a n c,.int .i64 home,.slice sa sn sc,.slice ca cn cc] 29∧Box V (w.heap.size+1) #[.int .i64 1,.int .i64 st,.int .i64 ct,.int .i64 tk,.int .i64 dx,.int .i64 dy,.int .i64 er,.int .i64 fr,.int .i64 wd,.int .i64 co,.bool su] 50) ⟨(Up.viz HB8.out.1),(Box.viz HB8.out.2.1),(Box.viz HB8.out.2.2)⟩ ?_
   rintro V9 ⟨hu9,bx9,by9⟩
   have HB9:=hide (And.intro hu9 (And.intro bx9 by9))
   clear HB8 x0 y0 x1 y1 x2 y2 x3 y3 y4 y5 y6 y7 y8 y9 y10 lx ly
   refine (HW6.out _).mono ?_
   intro p9
   obtain ⟨x0,x1,x2,x3⟩:=bx9.c4
   obtain ⟨y0,y1,y2,y3,y4,y5,y6,y7,y8,y9,y10⟩:=by9.c11
   have lx:=bx9.lt
   have ly:=by9.lt
   clear hu9 bx9 by9
   cases T6
   · go_wp2
     go_ret
     exact ⟨ret_int (by simp [offF]),(Up.viz HB9.out.1)⟩
   by_cases hx:dx=0
   · subst hx
     by_cases hy:dy=0
     · subst hy
       go_wp2
       go_ret
       exact ⟨ret_int (by simp [offF]),(Up.viz HB9.out.1)⟩
     have hyb:(dy==0)=false:=by simpa using hy
     go_wp2_with fail
     go_at_call 45
     refine forgetK (fun V=>Up w V∧Box V w.heap.size #[.slice a n c,.int .i64 home,.slice sa sn sc,.slice ca cn cc] 29∧Box V (w.heap.size+1) #[.int .i64 1,.int .i64 st,.int .i64 ct,.int .i64 tk,.int .i64 0,.int .i64 dy,.int .i64 er,.int .i64 fr,.int .i64 wd,.int .i64 co,.bool su] 50) ⟨(Up.viz HB9.out.1),(Box.viz HB9.out.2.1),(Box.viz HB9.out.2.2)⟩ ?_
     rintro V10 ⟨hu10,bx10,by10⟩
     have HB10:=hide (And.intro hu10 (And.intro bx10 by10))
     clear HB9 x0 y0 x1 y1 x2 y2 x3 y3 y4 y5 y6 y7 y8 y9 y10 lx ly
     refine (HW7.out _).mono ?_
     intro p10
     obtain ⟨x0,x1,x2,x3⟩:=bx10.c4
     obtain ⟨y0,y1,y2,y3,y4,y5,y6,y7,y8,y9,y10⟩:=by10.c11
     have lx:=bx10.lt
     have ly:=by10.lt
     clear hu10 bx10 by10
     cases T7
     · go_wp2
       go_ret
       exact ⟨ret_int (by simp [offF,hyb]),(Up.viz HB10.out.1)⟩
     go_wp2
     go_ret
     exact ⟨ret_int (by simp [offF,hyb]),(Up.viz HB10.out.1)⟩
   have hxb:(dx==0)=false:=by simpa using hx
   go_wp2_with fail
   go_at_call 45
   refine forgetK (fun V=>Up w V∧Box V w.heap.size #[.slice a n c,.int .i64 home,.slice sa sn sc,.slice ca cn cc] 29∧Box V (w.heap.size+1) #[.int .i64 1,.int .i64 st,.int .i64 ct,.int .i64 tk,.int .i64 dx,.int .i64 dy,.int .i64 er,.int .i64 fr,.int .i64 wd,.int .i64 co,.bool su] 50) ⟨(Up.viz HB9.out.1),(Box.viz HB9.out.2.1),(Box.viz HB9.out.2.2)⟩ ?_
   rintro V10 ⟨hu10,bx10,by10⟩
   have HB10:=hide (And.intro hu10 (And.intro bx10 by10))
   clear HB9 x0 y0 x1 y1 x2 y2 x3 y3 y4 y5 y6 y7 y8 y9 y10 lx ly
   refine (HW7.out _).mono ?_
   intro p10
   obtain ⟨x0,x1,x2,x3⟩:=bx10.c4
   obtain ⟨y0,y1,y2,y3,y4,y5,y6,y7,y8,y9,y10⟩:=by10.c11
   have lx:=bx10.lt
   have ly:=by10.lt
   clear hu10 bx10 by10
   cases T7
   · go_wp2
     go_ret
     exact ⟨ret_int (by simp [offF,hxb]),(Up.viz HB10.out.1)⟩
   go_wp2
   go_ret
   exact ⟨ret_int (by simp [offF,hxb]),(Up.viz HB10.out.1)⟩
 · go_wp2_with fail
   go_at_call 45
   refine forgetK (fun V=>Up w V∧Box V w.heap.size #[.slice a n c,.int .i64 home,.slice sa sn sc,.slice ca cn cc] 29∧Box V (w.heap.size+1) #[.int .i64 2,.int .i64 st,.int .i64 ct,.int .i64 tk,.int .i64 dx,.int .i64 dy,.int .i64 er,.int .i64 fr,.int .i64 wd,.int .i64 co,.bool su] 50) ⟨(Up.viz HB1.out.1),(Box.viz HB1.out.2.1),(Box.viz HB1.out.2.2)⟩ ?_
   rintro V2 ⟨hu2,bx2,by2⟩
   have HB2:=hide (And.intro hu2 (And.intro bx2 by2))
   clear HB1 x0 y0 x1 y1 x2 y2 x3 y3 y4 y5 y6 y7 y8 y9 y10 lx ly
   refine (HW1.out _).mono ?_
   intro p2
   obtain ⟨x0,x1,x2,x3⟩:=bx2.c4
   obtain ⟨y0,y1,y2,y3,y4,y5,y6,y7,y8,y9,y10⟩:=by2.c11
   have lx:=bx2.lt
   have ly:=by2.lt
   clear hu2 bx2 by2
   cases T1
   · go_wp2
     go_ret
     exact ⟨ret_int (by simp [offF]),(Up.viz HB2.out.1)⟩
   go_wp2_with fail
   go_at_call 86
   refine forgetK (fun V=>Up w V∧Box V w.heap.size #[.slice a n c,.int .i64 home,.slice sa sn sc,.slice ca cn cc] 29∧Box V (w.heap.size+1) #[.int .i64 2,.int .i64 st,.int .i64 ct,.int .i64 tk,.int .i64 dx,.int .i64 dy,.int .i64 er,.int .i64 fr,.int .i64 wd,.int .i64 co,.bool su] 50) ⟨(Up.viz HB2.out.1),(Box.viz HB2.out.2.1),(Box.viz HB2.out.2.2)⟩ ?_
   rintro V3 ⟨hu3,bx3,by3⟩
   have HB3:=hide (And.intro hu3 (And.intro bx3 by3))
   clear HB2 x0 y0 x1 y1 x2 y2 x3 y3 y4 y5 y6 y7 y8 y9 y10 lx ly
   refine (HS.out _ hu3 by3).mono ?_
   intro p3
   obtain ⟨x0,x1,x2,x3⟩:=bx3.c4
   obtain ⟨y0,y1,y2,y3,y4,y5,y6,y7,y8,y9,y10⟩:=by3.c11
   have lx:=bx3.lt
   have ly:=by3.lt
   clear hu3 bx3 by3
   cases S1
   · go_wp2
     go_ret
     exact ⟨ret_int (by simp [offF]),(Up.viz HB3.out.1)⟩
   go_wp2_with fail
   go_at_call 45
   refine forgetK (fun V=>Up w V∧Box V w.heap.size #[.slice a n c,.int .i64 home,.slice sa sn sc,.slice ca cn cc] 29∧Box V (w.heap.size+1) #[.int .i64 2,.int .i64 st,.int .i64 ct,.int .i64 tk,.int .i64 dx,.int .i64 dy,.int .i64 er,.int .i64 fr,.int .i64 wd,.int .i64 co,.bool su] 50) ⟨(Up.viz HB3.out.1),(Box.viz HB3.out.2.1),(Box.viz HB3.out.2.2)⟩ ?_
   rintro V4 ⟨hu4,bx4,by4⟩
   have HB4:=hide (And.intro hu4 (And.intro bx4 by4))
   clear HB3 x0 y0 x1 y1 x2 y2 x3 y3 y4 y5 y6 y7 y8 y9 y10 lx ly
   refine (HW2.out _).mono ?_
   intro p4
   obtain ⟨x0,x1,x2,x3⟩:=bx4.c4
   obtain ⟨y0,y1,y2,y3,y4,y5,y6,y7,y8,y9,y10⟩:=by4.c11
   have lx:=bx4.lt
   have ly:=by4.lt
   clear hu4 bx4 by4
   cases T2
   · go_wp2
     go_ret
     exact ⟨ret_int (by simp [offF]),(Up.viz HB4.out.1)⟩
   go_wp2_with fail
   go_at_call 45
   refine forgetK (fun V=>Up w V∧Box V w.heap.size #[.slice a n c,.int .i64 home,.slice sa sn sc,.slice ca cn cc] 29∧Box V (w.heap.size+1) #[.int .i64 2,.int .i64 st,.int .i64 ct,.int .i64 tk,.int .i64 dx,.int .i64 dy,.int .i64 er,.int .i64 fr,.int .i64 wd,.int .i64 co,.bool su] 50) ⟨(Up.viz HB4.out.1),(Box.viz HB4.out.2.1),(Box.viz HB4.out.2.2)⟩ ?_
   rintro V5 ⟨hu5,bx5,by5⟩
   have HB5:=hide (And.intro hu5 (And.intro bx5 by5))
   clear HB4 x0 y0 x1 y1 x2 y2 x3 y3 y4 y5 y6 y7 y8 y9 y10 lx ly
   refine (HW3.out _).mono ?_
   intro p5
   obtain ⟨x0,x1,x2,x3⟩:=bx5.c4
   obtain ⟨y0,y1,y2,y3,y4,y5,y6,y7,y8,y9,y10⟩:=by5.c11
   have lx:=bx5.lt
   have ly:=by5.lt
   clear hu5 bx5 by5
   cases T3
   · go_wp2
     go_ret
     exact ⟨ret_int (by simp [offF]),(Up.viz HB5.out.1)⟩
   go_wp2_with fail
   go_at_call 45
   refine forgetK (fun V=>Up w V∧Box V w.heap.size #[.slice a n c,.int .i64 home,.slice sa sn sc,.slice ca cn cc] 29∧Box V (w.heap.size+1) #[.int .i64 2,.int .i64 st,.int .i64 ct,.int .i64 tk,.int .i64 dx,.int .i64 dy,.int .i64 er,.int .i64 fr,.int .i64 wd,.int .i64 co,.bool su] 50) ⟨(Up.viz HB5.out.1),(Box.viz HB5.out.2.1),(Box.viz HB5.out.2.2)⟩ ?_
   rintro V6 ⟨hu6,bx6,by6⟩
   have HB6:=hide (And.intro hu6 (And.intro bx6 by6))
   clear HB5 x0 y0 x1 y1 x2 y2 x3 y3 y4 y5 y6 y7 y8 y9 y10 lx ly
   refine (HW4.out _).mono ?_
   intro p6
   obtain ⟨x0,x1,x2,x3⟩:=bx6.c4
   obtain ⟨y0,y1,y2,y3,y4,y5,y6,y7,y8,y9,y10⟩:=by6.c11
   have lx:=bx6.lt
   have ly:=by6.lt
   clear hu6 bx6 by6
   cases T4
   · go_wp2
     go_ret
     exact ⟨ret_int (by simp [offF]),(Up.viz HB6.out.1)⟩
   go_wp2
   go_ret
   exact ⟨ret_int (by simp [offF]),(Up.viz HB6.out.1)⟩
abbrev postA (k:KndD):Array Value:=#[.int .i64 (k.wx),.int .i64 (k.wy),.int .i64 (k.far),.int .i64 (k.err)]
abbrev scopeA (k:KndD):Array Value:=#[.int .i64 (k.wx),.int .i64 (k.wy),.int .i64 (k.far),.int .i64 (k.err),.int .i64 (k.dx),.int .i64 (k.dy),.int .i64 (k.lo),.int .i64 (k.hi),.int .i64 (k.wide)]
theorem wsquare_any {k:KndD} {p:Int×Int} (hk:KBd k) (hp:PBd p) (w:World):Gives Tryz.prog 295 #[.agg (postA k),.agg #[.int .i64 (p.1),.int .i64 (p.2)]] w (.int .i64 (sqK k p)):=by
 have h:=sq_bdK hk hp
 unfold sqK postA at *
 obtain ⟨p1,p2⟩:=p
 obtain ⟨⟨⟨a1,a2⟩,a3,a4⟩,⟨b1,b2⟩,⟨b3,b4⟩,b5,b6⟩:=h
 dsimp only at *
 generalize k.wx=wx at *
 generalize k.wy=wy at *
 generalize k.far=fr at *
 generalize k.err=er at *
 clear hk hp
 (unfold Gives;go_enter Tryz.func295,Tryz.ntmps295)
 go_wp2
 go_ret
 exact ⟨rfl,Up.go⟩
theorem wturns_any {k:KndD} {p:Int×Int} (hk:KBd k) (hp:PBd p) (w:World):Gives Tryz.prog 141 #[.agg (scopeA k),.agg #[.int .i64 (p.1),.int .i64 (p.2)]] w (.tuple #[.int .i64 (crK k p),.int .i64 (doK k p)]):=by
 have h:=sq_bdK hk hp
 have h2:=cr_bdK hk hp
 unfold crK doK scopeA at *
 obtain ⟨p1,p2⟩:=p
 obtain ⟨⟨⟨a1,a2⟩,a3,a4⟩,_⟩:=h
 obtain ⟨⟨⟨b1,b2⟩,b3,b4⟩,⟨⟨b5,b6⟩,b7,b8⟩,⟨b9,b10⟩,b11,b12⟩:=h2
 dsimp only at *
 generalize k.wx=wx at *
 generalize k.wy=wy at *
 generalize k.far=fr at *
 generalize k.err=er at *
 generalize k.dx=dx at *
 generalize k.dy=dy at *
 generalize k.lo=lo at *
 generalize k.hi=hi at *
 generalize k.wide=wd at *
 clear hk hp
 (unfold Gives;go_enter Tryz.func141,Tryz.ntmps141)
 go_wp2_with fail
 ((first | with_reducible refine wp_region_ext2 (by kernel_rfl) (by kernel_rfl) ?_ | refine wp_region_ext (by kernel_rfl) (by kernel_rfl) ?_);(repeat (go_big_quiet_step (fail)));refine wpQuiet_nil ?_;intro _ hw';obtain ⟨_,hw''⟩:=hw';subst hw'')
 go_wp2_with fail
 ((first | with_reducible refine wp_region_ext2 (by kernel_rfl) (by kernel_rfl) ?_ | refine wp_region_ext (by kernel_rfl) (by kernel_rfl) ?_);(repeat (go_big_quiet_step (fail)));refine wpQuiet_nil ?_;intro _ hw';obtain ⟨_,hw''⟩:=hw';subst hw'')
 go_wp2
 refine bodyPost_give Up.go rfl ⟨_,(by simp [results,Tryz.results141,go_sem];rfl),?_⟩
 rfl
theorem wreaches_any {k:KndD} {p:Int×Int} (hk:KBd k) (hp:PBd p) (w:World):Gives Tryz.prog 290 #[.agg (postA k),.agg #[.int .i64 (p.1),.int .i64 (p.2)]] w (.bool (reachK k p)):=by
 have HS:=hide (fun W=>wsquare_any hk hp W)
 have hf:=hk.far
 have hm:=mul_abs (show -134217728≤k.far by omega) hf.2 (show -134217728≤k.far by omega) hf.2
 have e:(134217728:Int)*134217728=18014398509481984:=by decide
 rw [e] at hm
 have hb:=(sq_bdK hk hp).2.2.2
 unfold reachK
 obtain ⟨p1,p2⟩:=p
 dsimp only at *
 generalize sqK k (p1,p2)=S at *
 unfold postA at *
 generalize k.wx=wx at *
 generalize k.wy=wy at *
 generalize k.far=fr at *
 generalize k.err=er at *
 clear hk hp
 (unfold Gives;go_enter Tryz.func290,Tryz.ntmps290)
 go_wp2_with fail
 ((first | with_reducible refine wp_region_ext2 (by kernel_rfl) (by kernel_rfl) ?_ | refine wp_region_ext (by kernel_rfl) (by kernel_rfl) ?_);(repeat (go_big_quiet_step ((go_at_call 295;exact Gives.inRegion (HS.out _)))));refine wpQuiet_nil ?_;intro _ hw';obtain ⟨_,hw''⟩:=hw';subst hw'')
 go_wp2
 go_ret
 exact ⟨rfl,Up.go⟩
theorem wwithin2_any {k:KndD} {p:Int×Int} {g:Int} (hk:KBd k) (hp:PBd p) (g0:0≤g) (g1:g≤1000000) (w:World):Gives Tryz.prog 99 #[.agg (scopeA k),.agg #[.int .i64 (p.1),.int .i64 (p.2)],.int .i64 g] w (.bool (withinK k p g)):=by
 have HT:=hide (fun W=>wturns_any hk hp W)
 have hc:=cr_bdK hk hp
 have hd:=wd_bdK hk hp g0 g1
 have hn:-g*doK k p = -(g*doK k p):=Int.neg_mul _ _
 unfold withinK
 obtain ⟨p1,p2⟩:=p
 dsimp only at *
 have hc1:=hc.2.2.1
 have hc2:=hc.2.2.2
 generalize crK k (p1,p2)=C at *
 generalize doK k (p1,p2)=D at *
 unfold scopeA at *
 generalize k.wx=wx at *
 generalize k.wy=wy at *
 generalize k.far=fr at *
 generalize k.err=er at *
 generalize k.dx=dx at *
 generalize k.dy=dy at *
 generalize k.lo=lo at *
 generalize k.hi=hi at *
 generalize k.wide=wd at *
 clear hk hp hc
 have hd1:-558345748480000000 ≤ -g*D ∧ -g*D≤558345748480000000:=by omega
 clear hn
 by_cases h0:0<D
 · have h0b:decide (0<D)=true:=by simpa using h0
   rw [h0b,Bool.true_and]
   by_cases h1:-g*D≤1000000*C
   · have h1b:decide (-g*D≤1000000*C)=true:=by simpa using h1
     rw [h1b,Bool.true_and]
     (unfold Gives;go_enter Tryz.func99,Tryz.ntmps99)
     go_wp2_with (go_at_call 141;refine (HT.out _).mono ?_;intro _)
     go_ret
     exact ⟨rfl,Up.go⟩
   · have h1b:decide (-g*D≤1000000*C)=false:=by simpa using h1
     rw [h1b,Bool.false_and]
     (unfold Gives;go_enter Tryz.func99,Tryz.ntmps99)
     go_wp2_with (go_at_call 141;refine (HT.out _).mono ?_;intro _)
     go_ret
     exact ⟨rfl,Up.go⟩
 · have h0b:decide (0<D)=false:=by simpa using h0
   rw [h0b,Bool.false_and]
   (unfold Gives;go_enter Tryz.func99,Tryz.ntmps99)
   go_wp2_with (go_at_call 141;refine (HT.out _).mono ?_;intro _)
   go_ret
   exact ⟨rfl,Up.go⟩
theorem wrfield_any {k:KndD} {p:Int×Int} (hk:KBd k) (hp:PBd p) (hs:k.sc=false) (w:World):Gives Tryz.prog 291 #[.agg (postA k),.agg #[.int .i64 (p.1),.int .i64 (p.2)]] w (.bool (fieldK k p)):=by
 have HR:=hide (fun W=>wreaches_any hk hp W)
 unfold fieldK
 rw [hs,Bool.not_false,Bool.true_or,Bool.and_true]
 generalize reachK k p=R at *
 unfold postA at *
 generalize k.wx=wx at *
 generalize k.wy=wy at *
 generalize k.far=fr at *
 generalize k.err=er at *
 clear hk hp hs
 (unfold Gives;go_enter Tryz.func291,Tryz.ntmps291)
 go_wp2_with (go_at_call 290;refine (HR.out _).mono ?_;intro _)
 go_ret
 exact ⟨rfl,Up.go⟩
theorem wsfield_any {k:KndD} {p:Int×Int} (hk:KBd k) (hp:PBd p) (hs:k.sc=true) (w:World):Gives Tryz.prog 297 #[.agg (scopeA k),.agg #[.int .i64 (p.1),.int .i64 (p.2)]] w (.bool (fieldK k p)):=by
 have HR:=hide (fun W=>wreaches_any hk hp W)
 have HW:=hide (fun W=>wwithin2_any hk hp hk.wide.1 hk.wide.2 W)
 unfold fieldK
 rw [hs,Bool.not_true,Bool.false_or]
 generalize reachK k p=R at *
 generalize withinK k p k.wide=T at *
 unfold postA scopeA at *
 generalize k.wx=wx at *
 generalize k.wy=wy at *
 generalize k.far=fr at *
 generalize k.err=er at *
 generalize k.dx=dx at *
 generalize k.dy=dy at *
 generalize k.lo=lo at *
 generalize k.hi=hi at *
 generalize k.wide=wd at *
 clear hk hp hs
 cases R
 all_goals
  (unfold Gives;go_enter Tryz.func297,Tryz.ntmps297)
  go_wp2_with (first|(go_at_call 290;refine (HR.out _).mono ?_;intro _)|(go_at_call 99;refine (HW.out _).mono ?_;intro _))
  go_ret
  exact ⟨rfl,Up.go⟩
theorem lin_corners {α β γ x0 x1 y0 y1 x y:Int} (hx0:x0≤x) (hx1:x≤x1) (hy0:y0≤y) (hy1:y≤y1) (h1:0≤α*x0+β*y0+γ) (h2:0≤α*x0+β*y1+γ) (h3:0≤α*x1+β*y0+γ) (h4:0≤α*x1+β*y1+γ):0≤α*x+β*y+γ:=by
 have ax:α*x0≤α*x∨α*x1≤α*x:=by
  rcases Int.le_total 0 α with h | h
  · exact .inl (Int.mul_le_mul_of_nonneg_left hx0 h)
  · exact .inr (Int.mul_le_mul_of_nonpos_left h hx1)
 have ay:β*y0≤β*y∨β*y1≤β*y:=by
  rcases Int.le_total 0 β with h | h
  · exact .inl (Int.mul_le_mul_of_nonneg_left hy0 h)
  · exact .inr (Int.mul_le_mul_of_nonpos_left h hy1)
 omega
def InA (q:Int×Int) (a:Ar4):Prop:=(a.1≤q.1∧q.1≤a.2.1)∧a.2.2.1≤q.2∧q.2≤a.2.2.2
def ABd (a:Ar4):Prop:=(-33554432≤a.1∧a.1≤a.2.1∧a.2.1≤33554432) ∧ -33554432≤a.2.2.1∧a.2.2.1≤a.2.2.2∧a.2.2.2≤33554432
theorem areaB_iff (a:Ar4):areaB a=true↔ABd a:=by
 unfold areaB ABd
 simp only [Bool.and_eq_true,decide_eq_true_eq,nearV_iff]
 omega
theorem InA.bd {q:Int×Int} {a:Ar4} (h:InA q a) (ha:ABd a):PBd q:=by
 obtain ⟨⟨h1,h2⟩,h3,h4⟩:=h
 obtain ⟨⟨a1,a2,a3⟩,b1,b2,b3⟩:=ha
 unfold PBd
 omega
theorem corner_in {a:Ar4} (ha:ABd a):∀ p∈cornersA a,InA p a:=by
 obtain ⟨⟨a1,a2,a3⟩,b1,b2,b3⟩:=ha
 intro p hp
 simp only [cornersA,List.mem_cons,List.not_mem_nil,or_false] at hp
 rcases hp with rfl | rfl | rfl | rfl <;> (unfold InA;dsimp only;omega)
theorem lin_at (k:KndD) (m n g:Int) (p:Int×Int):m*crK k p+n*doK k p+g=(n*k.dx - m*k.dy)*p.1+(m*k.dx+n*k.dy)*p.2+(g - (n*k.dx - m*k.dy)*k.wx - (m*k.dx+n*k.dy)*k.wy):=by
 unfold crK doK
 grind
theorem lin_in {k:KndD} {a:Ar4} {q:Int×Int} (hq:InA q a) (m n g:Int) (h:∀ p∈cornersA a,0≤m*crK k p+n*doK k p+g):0≤m*crK k q+n*doK k q+g:=by
 rw [lin_at]
 have h1:=h (a.1,a.2.2.1) (by simp [cornersA])
 have h2:=h (a.1,a.2.2.2) (by simp [cornersA])
 have h3:=h (a.2.1,a.2.2.1) (by simp [cornersA])
 have h4:=h (a.2.1,a.2.2.2) (by simp [cornersA])
 rw [lin_at] at h1 h2 h3 h4
 exact lin_corners hq.1.1 hq.1.2 hq.2.1 hq.2.2 h1 h2 h3 h4
theorem sq_le {x a b:Int} (h1:a≤x) (h2:x≤b):x*x≤max (a*a) (b*b):=by
 rcases Int.le_total 0 x with h | h
 · have:=Int.mul_le_mul h2 h2 h (by omega)
   omega
 · have:=Int.mul_le_mul (show -x ≤ -a by omega) (show -x ≤ -a by omega) (by omega) (by omega)
   rw [Int.neg_mul_neg,Int.neg_mul_neg] at this
   omega
theorem most_eq (k:KndD) (a:Ar4):mostK k a=max (max (max (max 0 (sqK k (a.1,a.2.2.1))) (sqK k (a.1,a.2.2.2))) (sqK k (a.2.1,a.2.2.1))) (sqK k (a.2.1,a.2.2.2)):=rfl
theorem most_ge {k:KndD} {a:Ar4} {q:Int×Int} (hq:InA q a):sqK k q≤mostK k a:=by
 rw [most_eq]
 have h1:=sq_le (x:=q.1 - k.wx) (a:=a.1 - k.wx) (b:=a.2.1 - k.wx) (by have:=hq.1;omega) (by have:=hq.1;omega)
 have h2:=sq_le (x:=q.2 - k.wy) (a:=a.2.2.1 - k.wy) (b:=a.2.2.2 - k.wy) (by have:=hq.2;omega) (by have:=hq.2;omega)
 unfold sqK
 dsimp only
 omega
theorem most_le {k:KndD} {a:Ar4} {n:Int} (h0:0≤n) (h:∀ p∈cornersA a,sqK k p≤n):mostK k a≤n:=by
 rw [most_eq]
 have h1:=h (a.1,a.2.2.1) (by simp [cornersA])
 have h2:=h (a.1,a.2.2.2) (by simp [cornersA])
 have h3:=h (a.2.1,a.2.2.1) (by simp [cornersA])
 have h4:=h (a.2.1,a.2.2.2) (by simp [cornersA])
 omega
theorem near_sq {x w a b:Int} (h1:a≤x) (h2:x≤b):(min (max w a) b - w)*(min (max w a) b - w)≤(x - w)*(x - w):=by
 rcases Int.le_total w a with h | h
 · rw [show min (max w a) b=a by omega]
   exact Int.mul_le_mul (by omega) (by omega) (by omega) (by omega)
 · rcases Int.le_total w b with h' | h'
   · rw [show min (max w a) b=w by omega,Int.sub_self,Int.zero_mul]
     rcases Int.le_total 0 (x - w) with h3 | h3
     · exact Int.mul_nonneg h3 h3
     · exact Int.mul_nonneg_of_nonpos_of_nonpos h3 h3
   · rw [show min (max w a) b=b by omega]
     have:=Int.mul_le_mul (show w - b≤w - x by omega) (show w - b≤w - x by omega) (by omega) (by omega)
     have e1:(b - w)*(b - w)=(w - b)*(w - b):=by grind
     have e2:(x - w)*(x - w)=(w - x)*(w - x):=by grind
     omega
theorem near_le {k:KndD} {a:Ar4} {q:Int×Int} (hq:InA q a):sqK k (nearK k a)≤sqK k q:=by
 have h1:=near_sq (w:=k.wx) hq.1.1 hq.1.2
 have h2:=near_sq (w:=k.wy) hq.2.1 hq.2.2
 unfold sqK nearK
 dsimp only
 omega
theorem near_in (k:KndD) {a:Ar4} (ha:ABd a):InA (nearK k a) a:=by
 obtain ⟨⟨a1,a2,a3⟩,b1,b2,b3⟩:=ha
 unfold InA nearK
 dsimp only
 omega
theorem sq_nonneg (k:KndD) (p:Int×Int):0≤sqK k p:=by
 have h:∀ x:Int,0≤x*x:=fun x=>by
  rcases Int.le_total 0 x with h3 | h3
  · exact Int.mul_nonneg h3 h3
  · exact Int.mul_nonneg_of_nonpos_of_nonpos h3 h3
 have h1:=h (p.1 - k.wx)
 have h2:=h (p.2 - k.wy)
 unfold sqK
 omega
theorem sure_field {k:KndD} {a:Ar4} {q:Int×Int} (hq:InA q a) (h:(cornersA a).all (fieldK k)=true):fieldK k q=true:=by
 rw [List.all_eq_true] at h
 have hf:∀ p∈cornersA a,reachK k p=true∧(k.sc=true→withinK k p k.wide=true):=fun p hp=>by
  have:=h p hp
  unfold fieldK at this
  simp only [Bool.and_eq_true,Bool.or_eq_true,Bool.not_eq_true'] at this
  exact ⟨this.1,fun hs=>this.2.resolve_left (by simp [hs])⟩
 unfold fieldK
 simp only [Bool.and_eq_true,Bool.or_eq_true,Bool.not_eq_true']
 refine ⟨?_,?_⟩
 · unfold reachK
   rw [decide_eq_true_eq]
   refine Int.le_trans (most_ge hq) (most_le ?_ fun p hp=>?_)
   · have:=(hf (a.1,a.2.2.1) (by simp [cornersA])).1
     unfold reachK at this
     rw [decide_eq_true_eq] at this
     have:=sq_nonneg k (a.1,a.2.2.1)
     omega
   · have:=(hf p hp).1
     unfold reachK at this
     rwa [decide_eq_true_eq] at this
 · cases hs:k.sc with
   | false=>exact .inl rfl
   | true =>
    right
    have hw:∀ p∈cornersA a,0<doK k p ∧ -k.wide*doK k p≤1000000*crK k p∧1000000*crK k p≤k.wide*doK k p:=fun p hp=>by
     have:=(hf p hp).2 hs
     unfold withinK at this
     simpa only [Bool.and_eq_true,decide_eq_true_eq] using this
    have l1:=lin_in (k:=k) hq 0 1 (-1) (fun p hp=>by have:=(hw p hp).1;omega)
    have l2:=lin_in (k:=k) hq 1000000 k.wide 0 (fun p hp=>by have:=(hw p hp).2.1;rw [Int.neg_mul] at this;omega)
    have l3:=lin_in (k:=k) hq (-1000000) k.wide 0 (fun p hp=>by have:=(hw p hp).2.2;omega)
    unfold withinK
    simp only [Bool.and_eq_true,decide_eq_true_eq]
    rw [Int.neg_mul]
    omega
theorem field_may {k:KndD} {a:Ar4} {q:Int×Int} (hq:InA q a) (h:fieldK k q=true):mayK k a=true:=by
 unfold fieldK at h
 simp only [Bool.and_eq_true,Bool.or_eq_true,Bool.not_eq_true'] at h
 unfold mayK
 simp only [Bool.and_eq_true,Bool.or_eq_true,Bool.not_eq_true']
 refine ⟨?_,?_⟩
 · have h1:=h.1
   unfold reachK at h1 ⊢
   rw [decide_eq_true_eq] at h1 ⊢
   exact Int.le_trans (near_le hq) h1
 · cases hs:k.sc with
   | false=>exact .inl rfl
   | true =>
    right
    have hw:=h.2.resolve_left (by simp [hs])
    unfold withinK at hw
    simp only [Bool.and_eq_true,decide_eq_true_eq] at hw
    refine ⟨?_,?_,?_⟩
    · refine Bool.eq_false_iff.2 fun hc=>?_
      rw [List.all_eq_true] at hc
      have:=lin_in (k:=k) hq 0 (-1) 0 (fun p hp=>by have:=hc p hp;unfold behindK at this;rw [decide_eq_true_eq] at this;omega)
      omega
    · refine Bool.eq_false_iff.2 fun hc=>?_
      rw [List.all_eq_true] at hc
      have:=lin_in (k:=k) hq (-1000000) (-k.wide) (-1) (fun p hp=>by have:=hc p hp;unfold belowK at this;rw [decide_eq_true_eq] at this;omega)
      omega
    · refine Bool.eq_false_iff.2 fun hc=>?_
      rw [List.all_eq_true] at hc
      have:=lin_in (k:=k) hq 1000000 (-k.wide) (-1) (fun p hp=>by have:=hc p hp;unfold aboveK at this;rw [decide_eq_true_eq] at this;rw [Int.neg_mul];omega)
      rw [Int.neg_mul] at this
      omega
theorem hull_ge {k:KndD}:∀ (l:List (Int×Int)) (o:Int×Int),(hullK k l o).1≤o.1∧o.2≤(hullK k l o).2∧∀ p∈l,(hullK k l o).1≤(slopeK k p).1∧(slopeK k p).2≤(hullK k l o).2
 | [],o=>⟨Int.le_refl _,Int.le_refl _,fun _ h=>by cases h⟩
 | p::l,o=>by
  obtain ⟨h1,h2,h3⟩:=hull_ge (k:=k) l (min o.1 (slopeK k p).1,max o.2 (slopeK k p).2)
  dsimp only at h1 h2
  unfold hullK
  refine ⟨by omega,by omega,fun q hq=>?_⟩
  rcases List.mem_cons.1 hq with rfl | hq
  · omega
  · exact h3 q hq
theorem slope_spec {k:KndD} {p:Int×Int} (h:0<doK k p) (m:Int):(m≤(slopeK k p).1↔m*doK k p≤1000000*crK k p)∧((slopeK k p).2≤m↔1000000*crK k p≤m*doK k p):=by
 unfold slopeK
 refine ⟨Int.le_ediv_iff_mul_le h,?_⟩
 have:=Int.le_ediv_iff_mul_le (a:=-m) (b:=-(1000000*crK k p)) h
 rw [Int.neg_mul] at this
 dsimp only
 omega
theorem slope_le {k:KndD} {p:Int×Int} (h:0<doK k p):(slopeK k p).1≤(slopeK k p).2:=by
 have h1:=(slope_spec h (slopeK k p).1).1.1 (Int.le_refl _)
 have h2:=(slope_spec h (slopeK k p).2).2.1 (Int.le_refl _)
 refine Int.not_lt.1 fun hc=>?_
 have:=Int.mul_lt_mul_of_pos_right hc h
 omega
theorem vals_scope {k:KndD} {a:Ar4} {q:Int×Int} (hk:KBd k) (hs:k.sc=true) (hq:InA q a) (h:fieldK k q=true) :
 (valuesK k a).1≤(slopeK k q).1 - k.hi - k.err∧(slopeK k q).2 - k.lo+k.err≤(valuesK k a).2∧(-2000000≤(slopeK k q).1 - k.hi - k.err∧(slopeK k q).1≤(slopeK k q).2)∧(slopeK k q).2 - k.lo+k.err≤2000000 ∧ -2000000≤(slopeK k q).1 - k.lo+k.err∧(slopeK k q).2 - k.hi - k.err≤2000000:=by
 unfold fieldK at h
 simp only [Bool.and_eq_true,Bool.or_eq_true,Bool.not_eq_true'] at h
 have hw:=h.2.resolve_left (by simp [hs])
 unfold withinK at hw
 simp only [Bool.and_eq_true,decide_eq_true_eq] at hw
 have s1:=(slope_spec hw.1 (-k.wide)).1.2 hw.2.1
 have s2:=(slope_spec hw.1 k.wide).2.2 hw.2.2
 have s3:=slope_le hw.1
 have b1:=hk.wide
 have b2:=hk.bias
 have b3:=hk.err
 refine ⟨?_,?_,⟨by omega,s3⟩,by omega,by omega,by omega⟩
 all_goals
  unfold valuesK
  rw [if_pos hs]
  by_cases hc:(cornersA a).all (frontK k)=true
  · rw [if_pos hc]
    rw [List.all_eq_true] at hc
    have hd:∀ p∈cornersA a,0<doK k p:=fun p hp=>by have:=hc p hp;unfold frontK at this;rwa [decide_eq_true_eq] at this
    obtain ⟨_,_,h3⟩:=hull_ge (k:=k) (cornersA a) (slopeK k (a.1,a.2.2.1))
    generalize hullK k (cornersA a) (slopeK k (a.1,a.2.2.1))=H at *
    have l1:=lin_in (k:=k) hq 1000000 (-H.1) 0 (fun p hp=>by have:=(slope_spec (hd p hp) H.1).1.1 (h3 p hp).1;rw [Int.neg_mul];omega)
    have l2:=lin_in (k:=k) hq (-1000000) H.2 0 (fun p hp=>by have:=(slope_spec (hd p hp) H.2).2.1 (h3 p hp).2;omega)
    rw [Int.neg_mul] at l1
    have g1:=(slope_spec hw.1 H.1).1.2 (by omega)
    have g2:=(slope_spec hw.1 H.2).2.2 (by omega)
    dsimp only
    omega
  · rw [if_neg hc]
    dsimp only
    omega
theorem far_bd {k:KndD} (hk:KBd k) {n:Int} (h0:0≤n) (h:n≤k.far*k.far):n<18446744073709551616∧isq n≤134217728∧0≤isq n∧isq n≤upq n∧upq n≤134217729:=by
 have hf:=hk.far
 have h1:=Int.mul_le_mul hf.2 hf.2 (by omega) (by omega)
 have e:(134217728:Int)*134217728=18014398509481984:=by decide
 rw [e] at h1
 have hn:n<18446744073709551616:=by omega
 obtain ⟨a0,a1,a2⟩:=isq_spec n h0 hn
 have h2:isq n≤134217728:=by
  refine Int.not_lt.1 fun hc=>?_
  have:=Int.mul_le_mul (show 134217729≤isq n by omega) (show 134217729≤isq n by omega) (by omega) a0
  have e2:(134217729:Int)*134217729=18014398777917441:=by decide
  omega
 obtain ⟨_,u1,_⟩:=upq_spec h0 hn
 refine ⟨hn,h2,a0,u1,?_⟩
 unfold upq
 split <;> omega
theorem vals_radar {k:KndD} {a:Ar4} {q:Int×Int} (hk:KBd k) (ha:ABd a) (hs:k.sc=false) (hq:InA q a) (h:fieldK k q=true) :
 (valuesK k a).1≤isq (sqK k q) - k.err∧upq (sqK k q)+k.err≤(valuesK k a).2∧0≤isq (sqK k q)∧isq (sqK k q)≤upq (sqK k q)∧upq (sqK k q)≤134217729:=by
 unfold fieldK at h
 simp only [Bool.and_eq_true] at h
 have hr:=h.1
 unfold reachK at hr
 rw [decide_eq_true_eq] at hr
 have h0:=sq_nonneg k q
 obtain ⟨hn,i1,i2,i3,i4⟩:=far_bd hk h0 hr
 have hm:mostK k a≤9290873254707200:=most_le (by omega) fun p hp=>(sq_bdK hk ((corner_in ha p hp).bd ha)).2.2.2.2
 have g1:=isq_mono (sq_nonneg k (nearK k a)) (near_le (k:=k) hq) hn
 have g2:=upq_mono h0 (most_ge (k:=k) hq) (by omega)
 unfold valuesK
 rw [if_neg (by simp [hs])]
 dsimp only
 omega
theorem clamp_in {lo hi x:Int} (h1:lo≤x) (h2:x≤hi) (h3:-1099511627776≤x) (h4:x≤1099511627776):clampS lo≤x∧x≤clampS hi:=by
 unfold clampS
 omega
theorem clamp_bd (x:Int):-1099511627776≤clampS x∧clampS x≤1099511627776:=by
 unfold clampS
 omega
theorem clamp_mono {x y:Int} (h:x≤y):clampS x≤clampS y:=by
 unfold clampS
 omega
theorem reads_in {k:KndD} {a:Ar4} {q:Int×Int} (hk:KBd k) (ha:ABd a) (hq:InA q a) (h:fieldK k q=true) :
 clampS (valuesK k a).1≤(readsK k q).1∧(readsK k q).2≤clampS (valuesK k a).2∧(-2000000≤(readsK k q).1∧(readsK k q).1≤135000000) ∧ -2000000≤(readsK k q).2∧(readsK k q).2≤135000000:=by
 have b2:=hk.bias
 have b3:=hk.err
 unfold readsK
 by_cases hs:k.sc=true
 · rw [if_pos hs]
   obtain ⟨h1,h2,⟨h3,h4⟩,h5,h6,h7⟩:=vals_scope hk hs hq h
   refine ⟨(clamp_in (x:=(slopeK k q).2 - k.hi - k.err) (hi:=(slopeK k q).2 - k.hi - k.err) (by omega) (by omega) (by omega) (by omega)).1,(clamp_in (lo:=(slopeK k q).1 - k.lo+k.err) (x:=(slopeK k q).1 - k.lo+k.err) (by omega) (by omega) (by omega) (by omega)).2,⟨?_,?_⟩,?_,?_⟩ <;> dsimp only <;> omega
 · rw [if_neg hs]
   obtain ⟨h1,h2,h3,h4,h5⟩:=vals_radar hk ha (by simpa using hs) hq h
   refine ⟨(clamp_in (x:=upq (sqK k q) - k.err) (hi:=upq (sqK k q) - k.err) (by omega) (by omega) (by omega) (by omega)).1,(clamp_in (lo:=isq (sqK k q)+k.err) (x:=isq (sqK k q)+k.err) (by omega) (by omega) (by omega) (by omega)).2,⟨?_,?_⟩,?_,?_⟩ <;> dsimp only <;> omega
theorem md_slope {k:KndD} {p:Int×Int} (hk:KBd k) (hp:PBd p) (h:0<doK k p):mdE (1000000*crK k p) (doK k p)=((slopeK k p).1,(slopeK k p).2,0):=by
 have hc:=(cr_bdK hk hp).2.2.1
 have s1:=(slope_spec (k:=k) h (-558345748480000000)).1.2 (by
  have:=Int.mul_le_mul_of_nonneg_left (show (1:Int)≤doK k p by omega) (show (0:Int)≤558345748480000000 by omega)
  omega)
 have s2:=(slope_spec (k:=k) h 558345748480000000).2.2 (by
  have:=Int.mul_le_mul_of_nonneg_left (show (1:Int)≤doK k p by omega) (show (0:Int)≤558345748480000000 by omega)
  omega)
 have s3:=slope_le h
 unfold mdE
 unfold slopeK at *
 dsimp only at *
 have e1:floQ (1000000*crK k p) (doK k p)=1000000*crK k p / doK k p:=by unfold floQ;rw [if_neg (by omega)]
 have e2:ceiQ (1000000*crK k p) (doK k p) = -(-(1000000*crK k p) / doK k p):=by unfold ceiQ floQ;rw [if_neg (by omega)]
 rw [e1,e2]
 split
 · rfl
 · rename_i hn
   exfalso
   apply hn
   omega
theorem mdE_bdd {k:KndD} {p:Int×Int} (hk:KBd k) (hp:PBd p) (h:0<doK k p):(-1152921504606846976≤(slopeK k p).1∧(slopeK k p).1≤1152921504606846976) ∧ -1152921504606846976≤(slopeK k p).2∧(slopeK k p).2≤1152921504606846976:=by
 have hc:=(cr_bdK hk hp).2.2.1
 have s1:=(slope_spec (k:=k) h (-558345748480000000)).1.2 (by
  have:=Int.mul_le_mul_of_nonneg_left (show (1:Int)≤doK k p by omega) (show (0:Int)≤558345748480000000 by omega)
  omega)
 have s2:=(slope_spec (k:=k) h 558345748480000000).2.2 (by
  have:=Int.mul_le_mul_of_nonneg_left (show (1:Int)≤doK k p by omega) (show (0:Int)≤558345748480000000 by omega)
  omega)
 have s3:=slope_le h
 have t1:=(slope_spec (k:=k) h 558345748480000000).1
 omega
theorem wslope_any {k:KndD} {p:Int×Int} (hk:KBd k) (hp:PBd p) (h:0<doK k p) (w:World):Gives Tryz.prog 304 #[.agg (scopeA k),.agg #[.int .i64 (p.1),.int .i64 (p.2)]] w (.agg #[.int .i64 ((slopeK k p).1),.int .i64 ((slopeK k p).2)]):=by
 have HT:=hide (fun W=>wturns_any hk hp W)
 have HM:=hide (fun W=>muldiv_any 1000000 (crK k p) (doK k p) W)
 rw [show mulDivE 1000000 (crK k p) (doK k p)=((slopeK k p).1,(slopeK k p).2,0) by
  have hc:=cr_bdK hk hp
  unfold mulDivE
  rw [if_pos ⟨(fits_iff _).2 (by omega),(fits_iff _).2 (by omega),(fits_iff _).2 (by omega),by omega⟩]
  exact md_slope hk hp h] at HM
 obtain ⟨p1,p2⟩:=p
 dsimp only at *
 generalize slopeK k (p1,p2)=S at *
 generalize crK k (p1,p2)=C at *
 generalize doK k (p1,p2)=D at *
 unfold scopeA at *
 generalize k.wx=wx at *
 generalize k.wy=wy at *
 generalize k.far=fr at *
 generalize k.err=er at *
 generalize k.dx=dx at *
 generalize k.dy=dy at *
 generalize k.lo=lo at *
 generalize k.hi=hi at *
 generalize k.wide=wd at *
 clear hk hp h
 try dsimp only at HM
 (unfold Gives;go_enter Tryz.func304,Tryz.ntmps304)
 go_wp2_with (first|(go_at_call 141;refine (HT.out _).mono ?_;intro _)|(go_at_call 249;refine (HM.out _).mono ?_;intro _))
 (refine forgetW (fun WF=>Up w WF∧Box WF (w.heap.size+1+1) #[.int .i64 S.1,.int .i64 S.2] 31) ⟨Up.go,Box.go⟩ ?_;rintro WF ⟨huF,hbF⟩;have zF0:=hbF.cell 0 rfl;have zF1:=hbF.cell 1 rfl;(refine bodyPost_give huF rfl ⟨_,(by simp [results,Tryz.results304,go_sem,zF0,zF1];rfl),?_⟩);rfl)
theorem roots_same {n:Int} (h0:0≤n) (h1:n≤1152921504606846976):rootsS n n=(isq n,upq n,0):=by
 unfold rootsS upq
 rw [if_pos (check_ok (by omega) (Int.le_refl _) h1),if_neg (by omega)]
theorem wrreads_any {k:KndD} {p:Int×Int} (hk:KBd k) (hp:PBd p) (hs:k.sc=false) (w:World):Gives Tryz.prog 293 #[.agg (postA k),.agg #[.int .i64 (p.1),.int .i64 (p.2)]] w (.agg #[.int .i64 ((readsK k p).1),.int .i64 ((readsK k p).2)]):=by
 have HS:=hide (fun W=>wsquare_any hk hp W)
 have hb:=(sq_bdK hk hp).2.2.2
 have HR:=hide (fun W=>roots_any (sqK k p) (sqK k p) W)
 rw [roots_same hb.1 (by omega)] at HR
 have i1:=isq_spec (sqK k p) hb.1 (by omega)
 have i2:=upq_spec (x:=sqK k p) hb.1 (by omega)
 have i3:isq (sqK k p)≤sqK k p:=by
  rcases Int.lt_or_le (isq (sqK k p)) 1 with h | h
  · omega
  · have:=Int.mul_le_mul_of_nonneg_left h i1.1
    omega
 have i4:upq (sqK k p)≤sqK k p+1:=by unfold upq;split <;> omega
 have he:=hk.err
 unfold readsK
 rw [if_neg (by simp [hs])]
 obtain ⟨p1,p2⟩:=p
 dsimp only at *
 have hI:0≤isq (sqK k (p1,p2))∧isq (sqK k (p1,p2))≤9290873254707201:=by omega
 have hU:0≤upq (sqK k (p1,p2))∧upq (sqK k (p1,p2))≤9290873254707201:=by omega
 clear i1 i2 i3 i4
 generalize isq (sqK k (p1,p2))=I at *
 generalize upq (sqK k (p1,p2))=U at *
 generalize sqK k (p1,p2)=S at *
 unfold postA at *
 generalize k.wx=wx at *
 generalize k.wy=wy at *
 generalize k.far=fr at *
 generalize k.err=er at *
 clear hk hp hs
 (unfold Gives;go_enter Tryz.func293,Tryz.ntmps293)
 go_wp2_with (first|(go_at_call 295;refine (HS.out _).mono ?_;intro _)|(go_at_call 247;refine (HR.out _).mono ?_;intro _))
 (refine forgetW (fun WF=>Up w WF∧Box WF (w.heap.size+1+1) #[.int .i64 ((U - er,I+er):Int×Int).1,.int .i64 ((U - er,I+er):Int×Int).2] 31) ⟨Up.go,Box.go⟩ ?_;rintro WF ⟨huF,hbF⟩;have zF0:=hbF.cell 0 rfl;have zF1:=hbF.cell 1 rfl;(refine bodyPost_give huF rfl ⟨_,(by simp [results,Tryz.results293,go_sem,zF0,zF1];rfl),?_⟩);rfl)
theorem wsreads_any {k:KndD} {p:Int×Int} (hk:KBd k) (hp:PBd p) (hs:k.sc=true) (h:0<doK k p) (w:World):Gives Tryz.prog 299 #[.agg (scopeA k),.agg #[.int .i64 (p.1),.int .i64 (p.2)]] w (.agg #[.int .i64 ((readsK k p).1),.int .i64 ((readsK k p).2)]):=by
 have HS:=hide (fun W=>wslope_any hk hp h W)
 have hbd:=mdE_bdd hk hp h
 have he:=hk.err
 have hbi:=hk.bias
 unfold readsK
 rw [if_pos hs]
 obtain ⟨p1,p2⟩:=p
 dsimp only at *
 generalize slopeK k (p1,p2)=S at *
 obtain ⟨S1,S2⟩:=S
 dsimp only at *
 unfold scopeA at *
 generalize k.wx=wx at *
 generalize k.wy=wy at *
 generalize k.far=fr at *
 generalize k.err=er at *
 generalize k.dx=dx at *
 generalize k.dy=dy at *
 generalize k.lo=lo at *
 generalize k.hi=hi at *
 generalize k.wide=wd at *
 clear hk hp h hs
 (unfold Gives;go_enter Tryz.func299,Tryz.ntmps299)
 go_wp2_with (go_at_call 304;refine (HS.out _).mono ?_;intro _)
 (refine forgetW (fun WF=>Up w WF∧Box WF (w.heap.size+1+1) #[.int .i64 ((S2 - hi - er,S1 - lo+er):Int×Int).1,.int .i64 ((S2 - hi - er,S1 - lo+er):Int×Int).2] 31) ⟨Up.go,Box.go⟩ ?_;rintro WF ⟨huF,hbF⟩;have zF0:=hbF.cell 0 rfl;have zF1:=hbF.cell 1 rfl;(refine bodyPost_give huF rfl ⟨_,(by simp [results,Tryz.results299,go_sem,zF0,zF1];rfl),?_⟩);rfl)
theorem wnearest_any (k:KndD) (a:Ar4) (w:World):Gives Tryz.prog 296 #[.agg (postA k),.agg #[.int .i64 (a.1),.int .i64 (a.2.1),.int .i64 (a.2.2.1),.int .i64 (a.2.2.2)]] w (.agg #[.int .i64 ((nearK k a).1),.int .i64 ((nearK k a).2)]):=by
 unfold nearK postA
 obtain ⟨x0,x1,y0,y1⟩:=a
 dsimp only
 generalize k.wx=wx
 generalize k.wy=wy
 generalize k.far=fr
 generalize k.err=er
 (unfold Gives;go_enter Tryz.func296,Tryz.ntmps296)
 go_wp2
 all_goals (refine bodyPost_give Up.go rfl ⟨_,(by simp [results,Tryz.results296,go_sem];rfl),?_⟩)
 all_goals rfl
theorem wcorners_any (a:Ar4) (w:World):Gives Tryz.prog 137 #[.agg #[.int .i64 (a.1),.int .i64 (a.2.1),.int .i64 (a.2.2.1),.int .i64 (a.2.2.2)]] w (.agg #[.int .i64 (a.1),.int .i64 (a.2.2.1),.int .i64 (a.1),.int .i64 (a.2.2.2),.int .i64 (a.2.1),.int .i64 (a.2.2.1),.int .i64 (a.2.1),.int .i64 (a.2.2.2)]):=by
 obtain ⟨x0,x1,y0,y1⟩:=a
 dsimp only
 (unfold Gives;go_enter Tryz.func137,Tryz.ntmps137)
 go_wp2
 all_goals (refine bodyPost_give Up.go rfl ⟨_,(by simp [results,Tryz.results137,go_sem];rfl),?_⟩)
 all_goals rfl
theorem wplace_any (x y:Int) (w:World):Gives Tryz.prog 49 #[.agg #[.int .i64 (x),.int .i64 (y)]] w (.bool (nearV 33554432 (x,y))):=by
 unfold nearV
 dsimp only
 have H1:=hide (fun W=>wwithin_any x (-33554432) 33554432 W)
 have H2:=hide (fun W=>wwithin_any y (-33554432) 33554432 W)
 generalize withinB x (-33554432) 33554432=A at *
 generalize withinB y (-33554432) 33554432=B at *
 cases A
 · (unfold Gives;go_enter Tryz.func49,Tryz.ntmps49)
   go_wp2_with fail
   go_at_call 45
   refine (H1.out _).mono ?_
   intro p1
   go_wp2
   go_ret
   exact ⟨rfl,Up.go⟩
 · (unfold Gives;go_enter Tryz.func49,Tryz.ntmps49)
   go_wp2_with fail
   go_at_call 45
   refine (H1.out _).mono ?_
   intro p1
   go_wp2_with fail
   go_at_call 45
   refine (H2.out _).mono ?_
   intro p2
   go_wp2
   go_ret
   exact ⟨rfl,Up.go⟩
theorem warea_any (a:Ar4) (w:World):Gives Tryz.prog 51 #[.agg #[.int .i64 (a.1),.int .i64 (a.2.1),.int .i64 (a.2.2.1),.int .i64 (a.2.2.2)]] w (.bool (areaB a)):=by
 obtain ⟨x0,x1,y0,y1⟩:=a
 unfold areaB
 dsimp only
 have H1:=hide (fun W=>wplace_any x0 y0 W)
 have H2:=hide (fun W=>wplace_any x1 y1 W)
 generalize nearV 33554432 (x0,y0)=A at *
 generalize nearV 33554432 (x1,y1)=B at *
 by_cases h1:x0≤x1
 · by_cases h2:y0≤y1
   · rw [decide_eq_true h1,decide_eq_true h2]
     cases A
     · (unfold Gives;go_enter Tryz.func51,Tryz.ntmps51)
       go_wp2_with fail
       go_at_call 49
       refine (H1.out _).mono ?_
       intro p1
       go_wp2
       go_ret
       exact ⟨rfl,Up.go⟩
     · (unfold Gives;go_enter Tryz.func51,Tryz.ntmps51)
       go_wp2_with fail
       go_at_call 49
       refine (H1.out _).mono ?_
       intro p1
       go_wp2_with fail
       go_at_call 49
       refine (H2.out _).mono ?_
       intro p2
       go_wp2
       go_ret
       exact ⟨rfl,Up.go⟩
   · rw [decide_eq_true h1,decide_eq_false h2]
     (unfold Gives;go_enter Tryz.func51,Tryz.ntmps51)
     go_wp2
     go_ret
     exact ⟨rfl,Up.go⟩
 · rw [decide_eq_false h1]
   (unfold Gives;go_enter Tryz.func51,Tryz.ntmps51)
   go_wp2
   go_ret
   exact ⟨rfl,Up.go⟩
def opName (o:Oper):Option String:=match o.op with
 | .call c=>match c.callee with
  | .invoke _ m=>some m
  | _=>none
 | .makeFunc f _ _=>match f with
  | .method m=>some m
  | _=>none
 | _=>none
def opNames:List Oper→List String
 | []=>[]
 | o::l=>match opName o with
  | some m=>m::opNames l
  | none=>opNames l
def codeNames:Code→List String
 | .region _ ops _=>opNames ops.toList
 | .seq a b=>codeNames a++codeNames b
 | .cond _ a b=>codeNames a++codeNames b
 | .block _ c=>codeNames c
 | .loop c=>codeNames c
 | _=>[]
abbrev theName {n:String} {x:Option String} (_:x=some n):String:=n
def bodyNames (f:Func):List String:=match f.body with
 | some c=>codeNames c
 | none=>[]
abbrev mMay:String:=theName (show (bodyNames Tryz.f52)[0]?=some _ from rfl)
abbrev mField:String:=theName (show (bodyNames Tryz.f52)[1]?=some _ from rfl)
abbrev mValues:String:=theName (show (bodyNames Tryz.f52)[2]?=some _ from rfl)
abbrev mReads:String:=theName (show (bodyNames Tryz.f19)[0]?=some _ from rfl)
theorem corners_vecs {W:World} {b:Nat} {T:TypeId} {a:Ar4} (ha:ABd a) (hb:Box W b #[.int .i64 (a.1),.int .i64 (a.2.2.1),.int .i64 (a.1),.int .i64 (a.2.2.2),.int .i64 (a.2.1),.int .i64 (a.2.2.1),.int .i64 (a.2.1),.int .i64 (a.2.2.2)] T):Vecs (fun _=>True) W (.slice (some ⟨b,0,none⟩) 4 4) (cornersA a):=by
 obtain ⟨⟨h1,h2,h3⟩,h4,h5,h6⟩:=ha
 have i1:I64 a.1:=by unfold I64;omega
 have i2:I64 a.2.1:=by unfold I64;omega
 have i3:I64 a.2.2.1:=by unfold I64;omega
 have i4:I64 a.2.2.2:=by unfold I64;omega
 refine ⟨_,_,rfl,by simp [cornersA],fun _=>⟨b,0,rfl,trivial,hb.lt,fun i x hx=>?_⟩⟩
 have two:∀ (j:Nat) (p:Int×Int),I64 p.1→I64 p.2→W.cell? ⟨b,j*2,none⟩=some (.int .i64 p.1)→W.cell? ⟨b,j*2+1,none⟩=some (.int .i64 p.2)→∃ vs,RTwo W p vs∧vs.length=2∧∀ q u,vs[q]?=some u→W.cell? ⟨b,0+j*2+q,none⟩=some u:=fun j p hi hj c0 c1 =>
  ⟨[.int .i64 p.1,.int .i64 p.2],⟨rfl,hi,hj⟩,rfl,fun q u hq=>by
   match q with
   | 0=>simp at hq;subst hq;rw [Nat.zero_add,Nat.add_zero];exact c0
   | 1=>simp at hq;subst hq;rw [Nat.zero_add];exact c1
   | q+2=>simp at hq⟩
 match i with
 | 0=>simp [cornersA] at hx;subst hx;exact two 0 _ i1 i3 (hb.cell 0 rfl) (hb.cell 1 rfl)
 | 1=>simp [cornersA] at hx;subst hx;exact two 1 _ i1 i4 (hb.cell 2 rfl) (hb.cell 3 rfl)
 | 2=>simp [cornersA] at hx;subst hx;exact two 2 _ i2 i3 (hb.cell 4 rfl) (hb.cell 5 rfl)
 | 3=>simp [cornersA] at hx;subst hx;exact two 3 _ i2 i4 (hb.cell 6 rfl) (hb.cell 7 rfl)
 | i+4=>simp [cornersA] at hx
theorem wall1_c (g:Nat) (cap:Array Value) (eg:∀ args w,(callFunc g args).run Tryz.prog w=.ok (.enter g args) w) {p:Int×Int} {F:Bool} {b:Nat} {w:World} (hb:Box w b #[.func (.func g) #[] cap] 115)
 (hF:∀ W,Up w W→Gives Tryz.prog g (#[.agg #[.int .i64 (p.1),.int .i64 (p.2)]]++cap) W (.bool F)):Gives Tryz.prog 139 (#[.agg #[.int .i64 p.1,.int .i64 p.2]]++#[.pointer (some ⟨b,0,none⟩)]) w (.bool (!F)):=by
 have c0:=hb.cell 0 rfl
 have lb:=hb.lt
 have HF:=hide hF
 show Gives Tryz.prog 139 #[.agg #[.int .i64 p.1,.int .i64 p.2],.pointer (some ⟨b,0,none⟩)] w (.bool (!F))
 obtain ⟨p1,p2⟩:=p
 dsimp only at HF ⊢
 clear hb hF
 (unfold Gives;go_enter Tryz.func139,Tryz.ntmps139)
 go_wp2
 refine (HF.out _ Up.go).mono ?_
 intro px
 go_wp2
 go_ret
 exact ⟨rfl,Up.go⟩
theorem wall1_m {m:String} {T:TypeId} {v v':Value} (g:Nat) (hm:∀ (n:Nat) w,(method (n+1) T v m).run Tryz.prog w=.ok (g,v') w) (eg:∀ args w,(callFunc g args).run Tryz.prog w=.ok (.enter g args) w) {p:Int×Int} {F:Bool} {b:Nat} {w:World} (hb:Box w b #[.func (.method m) #[.iface T v] #[]] 115)
 (hF:∀ W,Up w W→Gives Tryz.prog g (#[v']++#[.agg #[.int .i64 (p.1),.int .i64 (p.2)]]) W (.bool F)):Gives Tryz.prog 139 (#[.agg #[.int .i64 p.1,.int .i64 p.2]]++#[.pointer (some ⟨b,0,none⟩)]) w (.bool (!F)):=by
 have c0:=hb.cell 0 rfl
 have lb:=hb.lt
 have HF:=hide hF
 show Gives Tryz.prog 139 #[.agg #[.int .i64 p.1,.int .i64 p.2],.pointer (some ⟨b,0,none⟩)] w (.bool (!F))
 obtain ⟨p1,p2⟩:=p
 dsimp only at HF ⊢
 clear hb hF
 (unfold Gives;go_enter Tryz.func139,Tryz.ntmps139)
 go_wp2
 refine (HF.out _ Up.go).mono ?_
 intro px
 go_wp2
 go_ret
 exact ⟨rfl,Up.go⟩
theorem wall_any (fn:Fn) (first cap:Array Value) (F:Int×Int→Bool) {a:Ar4} (ha:ABd a) {w:World}
 (h1:∀ p W,p∈cornersA a→Up w W→Box W (w.heap.size+1) #[.func fn first cap] 115→Gives Tryz.prog 139 (#[.agg #[.int .i64 p.1,.int .i64 p.2]]++#[.pointer (some ⟨w.heap.size+1,0,none⟩)]) W (.bool (!F p))) :
 Gives Tryz.prog 96 #[.agg #[.int .i64 (a.1),.int .i64 (a.2.1),.int .i64 (a.2.2.1),.int .i64 (a.2.2.2)],.func fn first cap] w (.bool ((cornersA a).all F)):=by
 have HK:=hide (fun W=>wcorners_any a W)
 have HV:=hide (fun W (hu:Up w W) (hb:Box W (w.heap.size+1) #[.func fn first cap] 115) (b:Nat) (hx:Box W b #[.int .i64 (a.1),.int .i64 (a.2.2.1),.int .i64 (a.1),.int .i64 (a.2.2.2),.int .i64 (a.2.1),.int .i64 (a.2.2.1),.int .i64 (a.2.1),.int .i64 (a.2.2.2)] 219) =>
  anyvec_any 139 #[.pointer (some ⟨w.heap.size+1,0,none⟩)] (enters_of Tryz.func139 (by kernel_rfl) rfl) (fun p=>!F p) (corners_vecs ha hx) (fun p W2 hp hu2=>h1 p W2 hp (hu.trans hu2) (hb.up hu2)))
 rw [all_of_any] at HV
 generalize (cornersA a).all F=R at *
 obtain ⟨x0,x1,y0,y1⟩:=a
 dsimp only at HK HV ⊢
 clear h1 ha
 (unfold Gives;go_enter Tryz.func96,Tryz.ntmps96)
 go_wp2_with fail
 go_at_call 137
 refine (HK.out _).mono ?_
 intro p1
 go_wp2_with fail
 go_at_call 138
 obtain ⟨Q,hQ⟩:∃ T,w.heap.size+1+1+p1.os.size=T:=⟨_,rfl⟩
 try rw [hQ]
 refine forgetK (fun V=>Up w V∧Box V (w.heap.size+1) #[.func fn first cap] 115∧Box V Q #[.int .i64 (x0),.int .i64 (y0),.int .i64 (x0),.int .i64 (y1),.int .i64 (x1),.int .i64 (y0),.int .i64 (x1),.int .i64 (y1)] 219) ⟨Up.go,Box.go,by rw [← hQ];exact Box.go⟩ ?_
 rintro V ⟨hu,hb,hx⟩
 refine (HV.out V hu hb Q hx).mono ?_
 intro p2
 go_wp2
 go_ret
 exact ⟨ret_bool (by simp),(Up.via hu)⟩
theorem wall_c (g:Nat) (cap:Array Value) (eg:∀ args w,(callFunc g args).run Tryz.prog w=.ok (.enter g args) w) (F:Int×Int→Bool) {a:Ar4} (ha:ABd a) {w:World} (hF:∀ p W,p∈cornersA a→Up w W→Gives Tryz.prog g (#[.agg #[.int .i64 (p.1),.int .i64 (p.2)]]++cap) W (.bool (F p))) :
 Gives Tryz.prog 96 #[.agg #[.int .i64 (a.1),.int .i64 (a.2.1),.int .i64 (a.2.2.1),.int .i64 (a.2.2.2)],.func (.func g) #[] cap] w (.bool ((cornersA a).all F)) :=
 wall_any (.func g) #[] cap F ha fun p _ hp hu hb=>wall1_c g cap eg hb fun W2 hu2=>hF p W2 hp (hu.trans hu2)
theorem wall_m {m:String} {T:TypeId} {v v':Value} (g:Nat) (hm:∀ (n:Nat) w,(method (n+1) T v m).run Tryz.prog w=.ok (g,v') w) (eg:∀ args w,(callFunc g args).run Tryz.prog w=.ok (.enter g args) w) (F:Int×Int→Bool) {a:Ar4} (ha:ABd a) {w:World} (hF:∀ p W,p∈cornersA a→Up w W→Gives Tryz.prog g (#[v']++#[.agg #[.int .i64 (p.1),.int .i64 (p.2)]]) W (.bool (F p))) :
 Gives Tryz.prog 96 #[.agg #[.int .i64 (a.1),.int .i64 (a.2.1),.int .i64 (a.2.2.1),.int .i64 (a.2.2.2)],.func (.method m) #[.iface T v] #[]] w (.bool ((cornersA a).all F)) :=
 wall_any (.method m) #[.iface T v] #[] F ha fun p _ hp hu hb=>wall1_m g hm eg hb fun W2 hu2=>hF p W2 hp (hu.trans hu2)
theorem near_bd {k:KndD} {a:Ar4} (ha:ABd a):PBd (nearK k a):=(near_in k ha).bd ha
theorem wrmay_any {k:KndD} {a:Ar4} (hk:KBd k) (ha:ABd a) (hs:k.sc=false) (w:World):Gives Tryz.prog 292 #[.agg (postA k),.agg #[.int .i64 (a.1),.int .i64 (a.2.1),.int .i64 (a.2.2.1),.int .i64 (a.2.2.2)]] w (.bool (mayK k a)):=by
 have HN:=hide (fun W=>wnearest_any k a W)
 have HR:=hide (fun W=>wreaches_any hk (near_bd (k:=k) ha) W)
 unfold mayK
 rw [hs,Bool.not_false,Bool.true_or,Bool.and_true]
 generalize reachK k (nearK k a)=R at *
 generalize nearK k a=P at *
 obtain ⟨P1,P2⟩:=P
 obtain ⟨x0,x1,y0,y1⟩:=a
 dsimp only at *
 unfold postA at *
 generalize k.wx=wx at *
 generalize k.wy=wy at *
 generalize k.far=fr at *
 generalize k.err=er at *
 clear hk ha hs
 (unfold Gives;go_enter Tryz.func292,Tryz.ntmps292)
 go_wp2_with fail
 ((first | with_reducible refine wp_region_ext2 (by kernel_rfl) (by kernel_rfl) ?_ | refine wp_region_ext (by kernel_rfl) (by kernel_rfl) ?_);(repeat (go_big_quiet_step ((first | (go_at_call 296;exact Gives.inRegion (HN.out _)) | (go_at_call 290;exact Gives.inRegion (HR.out _))))));refine wpQuiet_nil ?_;intro _ hw';obtain ⟨_,hw''⟩:=hw';subst hw'')
 go_wp2
 go_ret
 exact ⟨rfl,Up.go⟩
theorem wmay1_any {k:KndD} {p:Int×Int} (hk:KBd k) (hp:PBd p) {b:Nat} {w:World} (hb:Box w b (scopeA k) 178):Gives Tryz.prog 301 (#[.agg #[.int .i64 (p.1),.int .i64 (p.2)]]++#[.pointer (some ⟨b,0,none⟩)]) w (.bool (behindK k p)):=by
 have HT:=hide (fun W=>wturns_any hk hp W)
 show Gives Tryz.prog 301 #[.agg #[.int .i64 (p.1),.int .i64 (p.2)],.pointer (some ⟨b,0,none⟩)] w (.bool (behindK k p))
 unfold behindK
 obtain ⟨p1,p2⟩:=p
 dsimp only at *
 generalize crK k (p1,p2)=C at *
 generalize doK k (p1,p2)=D at *
 unfold scopeA at *
 generalize k.wx=wx at *
 generalize k.wy=wy at *
 generalize k.far=fr at *
 generalize k.err=er at *
 generalize k.dx=dx at *
 generalize k.dy=dy at *
 generalize k.lo=lo at *
 generalize k.hi=hi at *
 generalize k.wide=wd at *
 obtain ⟨c0,c1,c2,c3,c4,c5,c6,c7,c8⟩:=hb.c9
 have lb:=hb.lt
 clear hk hp hb
 (unfold Gives;go_enter Tryz.func301,Tryz.ntmps301)
 go_wp2_with (go_at_call 141;refine (HT.out _).mono ?_;intro _)
 go_ret
 exact ⟨rfl,Up.go⟩
theorem wmay2_any {k:KndD} {p:Int×Int} (hk:KBd k) (hp:PBd p) {b:Nat} {w:World} (hb:Box w b (scopeA k) 178):Gives Tryz.prog 302 (#[.agg #[.int .i64 (p.1),.int .i64 (p.2)]]++#[.pointer (some ⟨b,0,none⟩)]) w (.bool (belowK k p)):=by
 have HT:=hide (fun W=>wturns_any hk hp W)
 show Gives Tryz.prog 302 #[.agg #[.int .i64 (p.1),.int .i64 (p.2)],.pointer (some ⟨b,0,none⟩)] w (.bool (belowK k p))
 unfold belowK
 have hc:=cr_bdK hk hp
 have hd:=wd_bdK hk hp hk.wide.1 hk.wide.2
 have hw:=hk.wide
 have hn:-k.wide*doK k p = -(k.wide*doK k p):=Int.neg_mul _ _
 obtain ⟨p1,p2⟩:=p
 dsimp only at *
 have hc1:=hc.2.2.1
 generalize crK k (p1,p2)=C at *
 generalize doK k (p1,p2)=D at *
 unfold scopeA at *
 generalize k.wx=wx at *
 generalize k.wy=wy at *
 generalize k.far=fr at *
 generalize k.err=er at *
 generalize k.dx=dx at *
 generalize k.dy=dy at *
 generalize k.lo=lo at *
 generalize k.hi=hi at *
 generalize k.wide=wd at *
 obtain ⟨c0,c1,c2,c3,c4,c5,c6,c7,c8⟩:=hb.c9
 have lb:=hb.lt
 have hd1:-558345748480000000 ≤ -wd*D ∧ -wd*D≤558345748480000000:=by omega
 clear hk hp hb hc hn
 (unfold Gives;go_enter Tryz.func302,Tryz.ntmps302)
 go_wp2_with (go_at_call 141;refine (HT.out _).mono ?_;intro _)
 go_ret
 exact ⟨rfl,Up.go⟩
theorem wmay3_any {k:KndD} {p:Int×Int} (hk:KBd k) (hp:PBd p) {b:Nat} {w:World} (hb:Box w b (scopeA k) 178):Gives Tryz.prog 303 (#[.agg #[.int .i64 (p.1),.int .i64 (p.2)]]++#[.pointer (some ⟨b,0,none⟩)]) w (.bool (aboveK k p)):=by
 have HT:=hide (fun W=>wturns_any hk hp W)
 show Gives Tryz.prog 303 #[.agg #[.int .i64 (p.1),.int .i64 (p.2)],.pointer (some ⟨b,0,none⟩)] w (.bool (aboveK k p))
 unfold aboveK
 have hc:=cr_bdK hk hp
 have hd:=wd_bdK hk hp hk.wide.1 hk.wide.2
 have hw:=hk.wide
 have hn:-k.wide*doK k p = -(k.wide*doK k p):=Int.neg_mul _ _
 obtain ⟨p1,p2⟩:=p
 dsimp only at *
 have hc1:=hc.2.2.1
 generalize crK k (p1,p2)=C at *
 generalize doK k (p1,p2)=D at *
 unfold scopeA at *
 generalize k.wx=wx at *
 generalize k.wy=wy at *
 generalize k.far=fr at *
 generalize k.err=er at *
 generalize k.dx=dx at *
 generalize k.dy=dy at *
 generalize k.lo=lo at *
 generalize k.hi=hi at *
 generalize k.wide=wd at *
 obtain ⟨c0,c1,c2,c3,c4,c5,c6,c7,c8⟩:=hb.c9
 have lb:=hb.lt
 have hd1:-558345748480000000 ≤ -wd*D ∧ -wd*D≤558345748480000000:=by omega
 clear hk hp hb hc hn
 (unfold Gives;go_enter Tryz.func303,Tryz.ntmps303)
 go_wp2_with (go_at_call 141;refine (HT.out _).mono ?_;intro _)
 go_ret
 exact ⟨rfl,Up.go⟩
theorem wsmay_any {k:KndD} {a:Ar4} (hk:KBd k) (ha:ABd a) (hs:k.sc=true) (w:World):Gives Tryz.prog 298 #[.agg (scopeA k),.agg #[.int .i64 (a.1),.int .i64 (a.2.1),.int .i64 (a.2.2.1),.int .i64 (a.2.2.2)]] w (.bool (mayK k a)):=by
 have HN:=hide (fun W=>wnearest_any k a W)
 have HR:=hide (fun W=>wreaches_any hk (near_bd (k:=k) ha) W)
 have HA1:=hide (fun W (_:Up w W) (hb:Box W w.heap.size (scopeA k) 178)=>wall_c 301 #[.pointer (some ⟨w.heap.size,0,none⟩)] (enters_of Tryz.func301 (by kernel_rfl) rfl) (behindK k) ha (fun p W2 hp hu2=>wmay1_any hk ((corner_in ha p hp).bd ha) (hb.up hu2)))
 have HA2:=hide (fun W (_:Up w W) (hb:Box W w.heap.size (scopeA k) 178)=>wall_c 302 #[.pointer (some ⟨w.heap.size,0,none⟩)] (enters_of Tryz.func302 (by kernel_rfl) rfl) (belowK k) ha (fun p W2 hp hu2=>wmay2_any hk ((corner_in ha p hp).bd ha) (hb.up hu2)))
 have HA3:=hide (fun W (_:Up w W) (hb:Box W w.heap.size (scopeA k) 178)=>wall_c 303 #[.pointer (some ⟨w.heap.size,0,none⟩)] (enters_of Tryz.func303 (by kernel_rfl) rfl) (aboveK k) ha (fun p W2 hp hu2=>wmay3_any hk ((corner_in ha p hp).bd ha) (hb.up hu2)))
 unfold mayK
 rw [hs,Bool.not_true,Bool.false_or]
 generalize reachK k (nearK k a)=R at *
 generalize nearK k a=P at *
 generalize (cornersA a).all (behindK k)=A1 at *
 generalize (cornersA a).all (belowK k)=A2 at *
 generalize (cornersA a).all (aboveK k)=A3 at *
 obtain ⟨P1,P2⟩:=P
 obtain ⟨x0,x1,y0,y1⟩:=a
 dsimp only at *
 unfold postA at *
 unfold scopeA at *
 generalize k.wx=wx at *
 generalize k.wy=wy at *
 generalize k.far=fr at *
 generalize k.err=er at *
 generalize k.dx=dx at *
 generalize k.dy=dy at *
 generalize k.lo=lo at *
 generalize k.hi=hi at *
 generalize k.wide=wd at *
 clear hk ha hs
 cases R
 all_goals try cases A1
 all_goals try cases A2
 all_goals
  (unfold Gives;go_enter Tryz.func298,Tryz.ntmps298)
  go_wp2_with fail
  refine forgetW (fun V=>Up w V∧Box V w.heap.size #[.int .i64 (wx),.int .i64 (wy),.int .i64 (fr),.int .i64 (er),.int .i64 (dx),.int .i64 (dy),.int .i64 (lo),.int .i64 (hi),.int .i64 (wd)] 178∧Box V (w.heap.size+1) #[.int .i64 (x0),.int .i64 (x1),.int .i64 (y0),.int .i64 (y1)] 61) ⟨Up.go,Box.go,Box.go⟩ ?_
  rintro V ⟨hu,hb,hx⟩
  have HB:=hide (And.intro hu hb)
  obtain ⟨s0,s1,s2,s3⟩:=hb.c4
  have ls:=hb.lt
  obtain ⟨a0,a1,a2,a3⟩:=hx.c4
  have la:=hx.lt
  clear hu hb hx
  ((first | with_reducible refine wp_region_ext2 (by kernel_rfl) (by kernel_rfl) ?_ | refine wp_region_ext (by kernel_rfl) (by kernel_rfl) ?_);(repeat (go_big_quiet_step ((first | (go_at_call 296;with_reducible exact Gives.inRegion (HN.out _)) | (go_at_call 290;with_reducible exact Gives.inRegion (HR.out _)) | (go_at_call 96;with_reducible exact Gives.inRegion (HA1.out _ (HB.out.1.ext _) (HB.out.2.ext _))) | (go_at_call 96;with_reducible exact Gives.inRegion (HA2.out _ (HB.out.1.ext _) (HB.out.2.ext _))) | (go_at_call 96;with_reducible exact Gives.inRegion (HA3.out _ (HB.out.1.ext _) (HB.out.2.ext _)))))));refine wpQuiet_nil ?_;intro _ hw';obtain ⟨_,hw''⟩:=hw';subst hw'')
  go_wp2
  go_ret
  exact ⟨rfl,(Up.via HB.out.1)⟩
theorem isq_self {x:Int} (h:0≤x) (h1:x<18446744073709551616):isq x≤x:=by
 obtain ⟨a0,a1,a2⟩:=isq_spec x h h1
 rcases Int.lt_or_le (isq x) 1 with h2 | h2
 · omega
 · have:=Int.mul_le_mul_of_nonneg_left h2 a0
   omega
theorem roots_two {m n:Int} (h0:0≤m) (h:m≤n) (h1:n≤1152921504606846976):rootsS m n=(isq m,upq n,0):=by
 unfold rootsS upq
 rw [if_pos (check_ok (by omega) h h1),if_neg (by omega)]
@[go_sem] theorem index_corner0 (x0 x1 y0 y1:Int) (w:World):(Instr.index 219 (.agg #[.int .i64 (x0),.int .i64 (y0),.int .i64 (x0),.int .i64 (y1),.int .i64 (x1),.int .i64 (y0),.int .i64 (x1),.int .i64 (y1)]) (.int .i64 0)).run Tryz.prog w=.ok (.agg #[.int .i64 (x0),.int .i64 (y0)]) w:=by kernel_rfl
@[go_sem] theorem index_corner1 (x0 x1 y0 y1:Int) (w:World):(Instr.index 219 (.agg #[.int .i64 (x0),.int .i64 (y0),.int .i64 (x0),.int .i64 (y1),.int .i64 (x1),.int .i64 (y0),.int .i64 (x1),.int .i64 (y1)]) (.int .i64 1)).run Tryz.prog w=.ok (.agg #[.int .i64 (x0),.int .i64 (y1)]) w:=by kernel_rfl
@[go_sem] theorem index_corner2 (x0 x1 y0 y1:Int) (w:World):(Instr.index 219 (.agg #[.int .i64 (x0),.int .i64 (y0),.int .i64 (x0),.int .i64 (y1),.int .i64 (x1),.int .i64 (y0),.int .i64 (x1),.int .i64 (y1)]) (.int .i64 2)).run Tryz.prog w=.ok (.agg #[.int .i64 (x1),.int .i64 (y0)]) w:=by kernel_rfl
@[go_sem] theorem index_corner3 (x0 x1 y0 y1:Int) (w:World):(Instr.index 219 (.agg #[.int .i64 (x0),.int .i64 (y0),.int .i64 (x0),.int .i64 (y1),.int .i64 (x1),.int .i64 (y0),.int .i64 (x1),.int .i64 (y1)]) (.int .i64 3)).run Tryz.prog w=.ok (.agg #[.int .i64 (x1),.int .i64 (y1)]) w:=by kernel_rfl
theorem wrvalues_any {k:KndD} {a:Ar4} (hk:KBd k) (ha:ABd a) (hs:k.sc=false) (w:World):Gives Tryz.prog 294 #[.agg (postA k),.agg #[.int .i64 (a.1),.int .i64 (a.2.1),.int .i64 (a.2.2.1),.int .i64 (a.2.2.2)]] w (.agg #[.int .i64 ((valuesK k a).1),.int .i64 ((valuesK k a).2)]):=by
 have HC:=hide (fun W=>wcorners_any a W)
 have HN:=hide (fun W=>wnearest_any k a W)
 have H0:=hide (fun W=>wsquare_any hk ((corner_in ha (a.1,a.2.2.1) (by simp [cornersA])).bd ha) W)
 have H1:=hide (fun W=>wsquare_any hk ((corner_in ha (a.1,a.2.2.2) (by simp [cornersA])).bd ha) W)
 have H2:=hide (fun W=>wsquare_any hk ((corner_in ha (a.2.1,a.2.2.1) (by simp [cornersA])).bd ha) W)
 have H3:=hide (fun W=>wsquare_any hk ((corner_in ha (a.2.1,a.2.2.2) (by simp [cornersA])).bd ha) W)
 have HQ:=hide (fun W=>wsquare_any hk (near_bd (k:=k) ha) W)
 have hm:mostK k a≤9290873254707200:=most_le (by omega) fun p hp=>(sq_bdK hk ((corner_in ha p hp).bd ha)).2.2.2.2
 have hn:=most_ge (k:=k) (near_in k ha)
 have hq0:=sq_nonneg k (nearK k a)
 have HR:=hide (fun W=>roots_any (sqK k (nearK k a)) (mostK k a) W)
 rw [roots_two hq0 hn (by omega)] at HR
 have i1:=isq_self hq0 (by omega)
 have i2:=(isq_spec _ hq0 (by omega)).1
 have i3:=isq_self (x:=mostK k a) (by omega) (by omega)
 have i4:upq (mostK k a)≤mostK k a+1:=by unfold upq;split <;> omega
 have i5:=(upq_spec (x:=mostK k a) (by omega) (by omega)).1
 have he:=hk.err
 unfold valuesK
 rw [if_neg (by simp [hs])]
 rw [most_eq] at *
 have hI:0≤isq (sqK k (nearK k a))∧isq (sqK k (nearK k a))≤9290873254707201:=by omega
 generalize sqK k (nearK k a)=S at *
 generalize nearK k a=P at *
 generalize sqK k (a.1,a.2.2.1)=q0 at *
 generalize sqK k (a.1,a.2.2.2)=q1 at *
 generalize sqK k (a.2.1,a.2.2.1)=q2 at *
 generalize sqK k (a.2.1,a.2.2.2)=q3 at *
 obtain ⟨M,hM⟩:∃ M,max (max (max (max 0 q0) q1) q2) q3=M:=⟨_,rfl⟩
 rw [hM] at HR hm hn i3 i4 i5 ⊢
 have HM:=hide hM
 clear hM
 have hU:0≤upq M∧upq M≤9290873254707202:=by omega
 clear i1 i2 i3 i4 i5 hm hn hq0
 generalize isq S=I at *
 generalize upq M=U at *
 obtain ⟨P1,P2⟩:=P
 obtain ⟨x0,x1,y0,y1⟩:=a
 dsimp only at *
 unfold postA at *
 generalize k.wx=wx at *
 generalize k.wy=wy at *
 generalize k.far=fr at *
 generalize k.err=er at *
 clear hk ha hs
 (unfold Gives;go_enter Tryz.func294,Tryz.ntmps294)
 go_wp2_with fail
 go_at_call 137
 refine (HC.out _).mono ?_
 intro p0
 go_wp2_with fail
 refine forgetW (fun V=>Up w V∧Box V w.heap.size #[.int .i64 (wx),.int .i64 (wy),.int .i64 (fr),.int .i64 (er)] 175∧Box V (w.heap.size+1) #[.int .i64 (x0),.int .i64 (x1),.int .i64 (y0),.int .i64 (y1)] 61∧Box V (w.heap.size+1+1) #[.int .i64 (0),.int .i64 (0)] 31) ⟨Up.go,Box.go,Box.go,Box.go⟩ ?_
 rintro V0 ⟨hu0,b0,c0,d0⟩
 have HB0:=hide (And.intro hu0 (And.intro b0 (And.intro c0 d0)))
 obtain ⟨t0,t1,t2,t3⟩:=b0.c4
 have lt:=b0.lt
 clear hu0 b0 c0 d0
 refine wp_loop_rounds 5 ?_
 rw [rounds_succ]
 go_wp2_with fail
 go_at_call 295
 refine forgetK (fun V=>Up w V∧Box V w.heap.size #[.int .i64 (wx),.int .i64 (wy),.int .i64 (fr),.int .i64 (er)] 175∧Box V (w.heap.size+1) #[.int .i64 (x0),.int .i64 (x1),.int .i64 (y0),.int .i64 (y1)] 61∧Box V (w.heap.size+1+1) #[.int .i64 (0),.int .i64 (0)] 31) ⟨(Up.viz HB0.out.1),(Box.viz HB0.out.2.1),(Box.viz HB0.out.2.2.1),(Box.viz HB0.out.2.2.2)⟩ ?_
 clear HB0 t0 t1 t2 t3 lt
 rintro V1 ⟨hu0,b0,c0,d0⟩
 have HB1:=hide (And.intro hu0 (And.intro b0 (And.intro c0 d0)))
 refine (H0.out _).mono ?_
 intro p1
 obtain ⟨t0,t1,t2,t3⟩:=b0.c4
 have lt:=b0.lt
 clear hu0 b0 c0 d0
 go_wp2_with fail
 rw [rounds_succ]
 go_wp2_with fail
 go_at_call 295
 refine forgetK (fun V=>Up w V∧Box V w.heap.size #[.int .i64 (wx),.int .i64 (wy),.int .i64 (fr),.int .i64 (er)] 175∧Box V (w.heap.size+1) #[.int .i64 (x0),.int .i64 (x1),.int .i64 (y0),.int .i64 (y1)] 61∧Box V (w.heap.size+1+1) #[.int .i64 (0),.int .i64 (0)] 31) ⟨(Up.viz HB1.out.1),(Box.viz HB1.out.2.1),(Box.viz HB1.out.2.2.1),(Box.viz HB1.out.2.2.2)⟩ ?_
 clear HB1 t0 t1 t2 t3 lt
 rintro V2 ⟨hu0,b0,c0,d0⟩
 have HB2:=hide (And.intro hu0 (And.intro b0 (And.intro c0 d0)))
 refine (H1.out _).mono ?_
 intro p2
 obtain ⟨t0,t1,t2,t3⟩:=b0.c4
 have lt:=b0.lt
 clear hu0 b0 c0 d0
 go_wp2_with fail
 rw [rounds_succ]
 go_wp2_with fail
 go_at_call 295
 refine forgetK (fun V=>Up w V∧Box V w.heap.size #[.int .i64 (wx),.int .i64 (wy),.int .i64 (fr),.int .i64 (er)] 175∧Box V (w.heap.size+1) #[.int .i64 (x0),.int .i64 (x1),.int .i64 (y0),.int .i64 (y1)] 61∧Box V (w.heap.size+1+1) #[.int .i64 (0),.int .i64 (0)] 31) ⟨(Up.viz HB2.out.1),(Box.viz HB2.out.2.1),(Box.viz HB2.out.2.2.1),(Box.viz HB2.out.2.2.2)⟩ ?_
 clear HB2 t0 t1 t2 t3 lt
 rintro V3 ⟨hu0,b0,c0,d0⟩
 have HB3:=hide (And.intro hu0 (And.intro b0 (And.intro c0 d0)))
 refine (H2.out _).mono ?_
 intro p3
 obtain ⟨t0,t1,t2,t3⟩:=b0.c4
 have lt:=b0.lt
 clear hu0 b0 c0 d0
 go_wp2_with fail
 rw [rounds_succ]
 go_wp2_with fail
 go_at_call 295
 refine forgetK (fun V=>Up w V∧Box V w.heap.size #[.int .i64 (wx),.int .i64 (wy),.int .i64 (fr),.int .i64 (er)] 175∧Box V (w.heap.size+1) #[.int .i64 (x0),.int .i64 (x1),.int .i64 (y0),.int .i64 (y1)] 61∧Box V (w.heap.size+1+1) #[.int .i64 (0),.int .i64 (0)] 31) ⟨(Up.viz HB3.out.1),(Box.viz HB3.out.2.1),(Box.viz HB3.out.2.2.1),(Box.viz HB3.out.2.2.2)⟩ ?_
 clear HB3 t0 t1 t2 t3 lt
 rintro V4 ⟨hu0,b0,c0,d0⟩
 have HB4:=hide (And.intro hu0 (And.intro b0 (And.intro c0 d0)))
 refine (H3.out _).mono ?_
 intro p4
 obtain ⟨t0,t1,t2,t3⟩:=b0.c4
 have lt:=b0.lt
 clear hu0 b0 c0 d0
 go_wp2_with fail
 rw [rounds_succ]
 go_wp2_with fail
 refine forgetW (fun V=>Up w V∧Box V w.heap.size #[.int .i64 (wx),.int .i64 (wy),.int .i64 (fr),.int .i64 (er)] 175∧Box V (w.heap.size+1) #[.int .i64 (x0),.int .i64 (x1),.int .i64 (y0),.int .i64 (y1)] 61∧Box V (w.heap.size+1+1) #[.int .i64 (0),.int .i64 (0)] 31) ⟨(Up.viz HB4.out.1),(Box.viz HB4.out.2.1),(Box.viz HB4.out.2.2.1),(Box.viz HB4.out.2.2.2)⟩ ?_
 clear HB4 t0 t1 t2 t3 lt
 rintro V ⟨hu0,b0,c0,d0⟩
 have HB:=hide (And.intro hu0 (And.intro b0 d0))
 obtain ⟨t0,t1,t2,t3⟩:=b0.c4
 have lt:=b0.lt
 obtain ⟨a0,a1,a2,a3⟩:=c0.c4
 have la:=c0.lt
 have hl4:=d0.lt
 clear hu0 b0 c0 d0
 rw [show max 0 (max q0 (max q1 (max q2 q3)))=M by have:=HM.out;omega]
 refine wp_region_floatz (al:=[(13,8,#[.int .i64 (0),.int .i64 (0)],31)]) (mv:=fun _=>false) 12 [14,15] [0,1,2,3,4,5,6,7,8,9,10,11,12] (by kernel_rfl) (by kernel_rfl) rfl (fun _=>rfl) (fun _ _ _ _ h=>h) (makes1 ⟨_,rfl,rfl,fun _=>rfl,fun _ _=>by simp [go_sem]⟩) (cls_ext _) (by first|exact drew_in2 _ _|exact drew_in _) (Nat.le_refl _) ?_
 simp only [withOps,List.filterMap_cons,List.filterMap_nil,List.getElem?_toArray,List.getElem?_cons_zero,List.getElem?_cons_succ,Option.map_some]
 (repeat (first|(apply walkF_pure (base:=fun p:Ext=>ext _ p) rfl rfl rfl (by kernel_rfl);· (intro px K hK;go_big_quiet_op;first|exact hK|(apply Exists.intro;refine ⟨fun _=>?_,?_⟩;(· ((first|(go_at_call 296;with_reducible exact Gives.inFloat (HN.out _))|(go_at_call 295;with_reducible exact Gives.inFloat (HQ.out _))|(go_at_call 247;with_reducible exact Gives.inFloat (HR.out _)))));exact hK)))|(apply walkF_skip rfl;simp only [Act.put,List.setIfInBounds_toArray,List.set_cons_zero,List.set_cons_succ])))
 refine walkF_lazy (.int .i64 0) rfl rfl (fun _=>by simp [go_sem]) ?_
 simp only [Act.put,List.setIfInBounds_toArray,List.set_cons_zero,List.set_cons_succ]
 refine walkF_nil (end1 (fun Q U' hq hU bq=>?_))
 simp only [Act.put,List.setIfInBounds_toArray,List.set_cons_zero,List.set_cons_succ]
 (try simp only [List.filterMap_cons,List.filterMap_nil,List.getElem?_toArray,List.getElem?_cons_zero,List.getElem?_cons_succ])
 have hU1:Up V U':=hU
 have HQQ:=hide (And.intro (HB.out.1.trans hU1) (And.intro (HB.out.2.1.up hU1) (And.intro (HB.out.2.2.up hU1) bq)))
 obtain ⟨q0,q1⟩:=bq.c2
 have lq:=bq.lt
 obtain ⟨fq0,fq1⟩:=bq.f2
 clear t0 t1 t2 t3 lt a0 a1 a2 a3 la hU hU1 bq
 obtain ⟨t0,t1,t2,t3⟩:=HQQ.out.2.1.c4
 have lt:=HQQ.out.2.1.lt
 obtain ⟨z0,z1⟩:=HQQ.out.2.2.1.c2
 have lz:=HQQ.out.2.2.1.lt
 obtain ⟨fz0,fz1⟩:=HQQ.out.2.2.1.f2
 have n1:w.heap.size≠Q:=by omega
 have n2:w.heap.size+1+1≠Q:=by omega
 have n3:Q≠w.heap.size:=by omega
 have n4:Q≠w.heap.size+1+1:=by omega
 go_wp2_with fail
 refine forgetW (fun WF=>Up w WF∧Box WF (w.heap.size+1+1) #[.int .i64 (I - er),.int .i64 (U+er)] 31) ⟨(Up.viz HQQ.out.1),?_⟩ ?_
 · exact (by (repeat (first|with_reducible apply Box.ext|with_reducible apply Box.alloc|with_reducible apply Box.drew));exact ((((HQQ.out.2.2.1.other (b':=Q) n2 0 (.int .i64 I)).other (b':=Q) n2 1 (.int .i64 U)).set 0 (.int .i64 (I - er))).set 1 (.int .i64 (U+er))))
 rintro WF ⟨huF,hbF⟩
 obtain ⟨w0,w1⟩:=hbF.c2
 (refine bodyPost_give huF rfl ⟨_,(by simp [results,Tryz.results294,go_sem,w0,w1];rfl),?_⟩)
 rfl
theorem wval1_any {k:KndD} {p:Int×Int} (hk:KBd k) (hp:PBd p) {b:Nat} {w:World} (hb:Box w b (scopeA k) 178):Gives Tryz.prog 305 (#[.agg #[.int .i64 (p.1),.int .i64 (p.2)]]++#[.pointer (some ⟨b,0,none⟩)]) w (.bool (frontK k p)):=by
 have HT:=hide (fun W=>wturns_any hk hp W)
 show Gives Tryz.prog 305 #[.agg #[.int .i64 (p.1),.int .i64 (p.2)],.pointer (some ⟨b,0,none⟩)] w (.bool (frontK k p))
 unfold frontK
 obtain ⟨p1,p2⟩:=p
 dsimp only at *
 generalize crK k (p1,p2)=C at *
 generalize doK k (p1,p2)=D at *
 unfold scopeA at *
 generalize k.wx=wx at *
 generalize k.wy=wy at *
 generalize k.far=fr at *
 generalize k.err=er at *
 generalize k.dx=dx at *
 generalize k.dy=dy at *
 generalize k.lo=lo at *
 generalize k.hi=hi at *
 generalize k.wide=wd at *
 obtain ⟨c0,c1,c2,c3,c4,c5,c6,c7,c8⟩:=hb.c9
 have lc:=hb.lt
 clear hk hp hb
 (unfold Gives;go_enter Tryz.func305,Tryz.ntmps305)
 go_wp2_with (go_at_call 141;refine (HT.out _).mono ?_;intro _)
 go_ret
 exact ⟨rfl,Up.go⟩
theorem hull4 (k:KndD) (a:Ar4) (o:Int×Int):hullK k (cornersA a) o=(min (min (min (min o.1 (slopeK k (a.1,a.2.2.1)).1) (slopeK k (a.1,a.2.2.2)).1) (slopeK k (a.2.1,a.2.2.1)).1) (slopeK k (a.2.1,a.2.2.2)).1,
 max (max (max (max o.2 (slopeK k (a.1,a.2.2.1)).2) (slopeK k (a.1,a.2.2.2)).2) (slopeK k (a.2.1,a.2.2.1)).2) (slopeK k (a.2.1,a.2.2.2)).2):=rfl
theorem wsvalues_any {k:KndD} {a:Ar4} (hk:KBd k) (ha:ABd a) (hs:k.sc=true) (w:World):Gives Tryz.prog 300 #[.agg (scopeA k),.agg #[.int .i64 (a.1),.int .i64 (a.2.1),.int .i64 (a.2.2.1),.int .i64 (a.2.2.2)]] w (.agg #[.int .i64 ((valuesK k a).1),.int .i64 ((valuesK k a).2)]):=by
 have HA:=hide (fun W (_:Up w W) (hb:Box W w.heap.size (scopeA k) 178)=>wall_c 305 #[.pointer (some ⟨w.heap.size,0,none⟩)] (enters_of Tryz.func305 (by kernel_rfl) rfl) (frontK k) ha (fun p W2 hp hu2=>wval1_any hk ((corner_in ha p hp).bd ha) (hb.up hu2)))
 unfold valuesK
 rw [if_pos hs]
 by_cases hF:(cornersA a).all (frontK k)=true
 rotate_left
 · rw [if_neg hF]
   rw [show (cornersA a).all (frontK k)=false by simpa using hF] at HA
   obtain ⟨x0,x1,y0,y1⟩:=a
   dsimp only at *
   unfold scopeA at *
   generalize k.wx=wx at *
   generalize k.wy=wy at *
   generalize k.far=fr at *
   generalize k.err=er at *
   generalize k.dx=dx at *
   generalize k.dy=dy at *
   generalize k.lo=lo at *
   generalize k.hi=hi at *
   generalize k.wide=wd at *
   clear hk ha hs hF
   (unfold Gives;go_enter Tryz.func300,Tryz.ntmps300)
   go_wp2_with (go_at_call 96;refine (HA.out _ Up.go Box.go).mono ?_;intro _)
   (refine forgetW (fun WF=>Up w WF∧Box WF (w.heap.size+1+1) #[.int .i64 ((-1099511627776,1099511627776):Int×Int).1,.int .i64 ((-1099511627776,1099511627776):Int×Int).2] 31) ⟨Up.go,Box.go⟩ ?_;rintro WF ⟨huF,hbF⟩;have zF0:=hbF.cell 0 rfl;have zF1:=hbF.cell 1 rfl;(refine bodyPost_give huF rfl ⟨_,(by simp [results,Tryz.results300,go_sem,zF0,zF1];rfl),?_⟩);rfl)
 rw [if_pos hF]
 rw [hF] at HA
 rw [List.all_eq_true] at hF
 have hd:∀ p∈cornersA a,0<doK k p:=fun p hp=>by have:=hF p hp;unfold frontK at this;rwa [decide_eq_true_eq] at this
 have c0:(a.1,a.2.2.1)∈cornersA a:=by simp [cornersA]
 have c1:(a.1,a.2.2.2)∈cornersA a:=by simp [cornersA]
 have c2:(a.2.1,a.2.2.1)∈cornersA a:=by simp [cornersA]
 have c3:(a.2.1,a.2.2.2)∈cornersA a:=by simp [cornersA]
 have HC:=hide (fun W=>wcorners_any a W)
 have H0s:=hide (fun W=>wslope_any hk ((corner_in ha _ c0).bd ha) (hd _ c0) W)
 have H1s:=hide (fun W=>wslope_any hk ((corner_in ha _ c1).bd ha) (hd _ c1) W)
 have H2s:=hide (fun W=>wslope_any hk ((corner_in ha _ c2).bd ha) (hd _ c2) W)
 have H3s:=hide (fun W=>wslope_any hk ((corner_in ha _ c3).bd ha) (hd _ c3) W)
 have b0:=mdE_bdd hk ((corner_in ha _ c0).bd ha) (hd _ c0)
 have b1:=mdE_bdd hk ((corner_in ha _ c1).bd ha) (hd _ c1)
 have b2:=mdE_bdd hk ((corner_in ha _ c2).bd ha) (hd _ c2)
 have b3:=mdE_bdd hk ((corner_in ha _ c3).bd ha) (hd _ c3)
 have he:=hk.err
 have hbi:=hk.bias
 rw [hull4]
 dsimp only
 generalize slopeK k (a.1,a.2.2.1)=S0 at *
 generalize slopeK k (a.1,a.2.2.2)=S1 at *
 generalize slopeK k (a.2.1,a.2.2.1)=S2 at *
 generalize slopeK k (a.2.1,a.2.2.2)=S3 at *
 obtain ⟨l0,h0⟩:=S0
 obtain ⟨l1,h1⟩:=S1
 obtain ⟨l2,h2⟩:=S2
 obtain ⟨l3,h3⟩:=S3
 obtain ⟨x0,x1,y0,y1⟩:=a
 dsimp only at *
 unfold scopeA at *
 generalize k.wx=wx at *
 generalize k.wy=wy at *
 generalize k.far=fr at *
 generalize k.err=er at *
 generalize k.dx=dx at *
 generalize k.dy=dy at *
 generalize k.lo=lo at *
 generalize k.hi=hi at *
 generalize k.wide=wd at *
 obtain ⟨L,hL⟩:∃ L,min (min (min (min l0 l0) l1) l2) l3=L:=⟨_,rfl⟩
 obtain ⟨G,hG⟩:∃ G,max (max (max (max h0 h0) h1) h2) h3=G:=⟨_,rfl⟩
 have hLb:-1152921504606846976≤L∧L≤1152921504606846976:=by omega
 have hGb:-1152921504606846976≤G∧G≤1152921504606846976:=by omega
 rw [hL,hG]
 have HLG:=hide (And.intro hL hG)
 clear hk ha hs hF hd c0 c1 c2 c3 b0 b1 b2 b3 hL hG
 (unfold Gives;go_enter Tryz.func300,Tryz.ntmps300)
 go_wp2_with fail
 go_at_call 96
 refine (HA.out _ Up.go Box.go).mono ?_
 intro pa
 go_wp2_with fail
 go_at_call 137
 obtain ⟨O,hO⟩:∃ T,w.heap.size+1+1+1+pa.os.size=T:=⟨_,rfl⟩
 try rw [hO]
 have hOl:w.heap.size+1+1<O:=by omega
 refine forgetK (fun V=>Up w V∧Box V w.heap.size #[.int .i64 (wx),.int .i64 (wy),.int .i64 (fr),.int .i64 (er),.int .i64 (dx),.int .i64 (dy),.int .i64 (lo),.int .i64 (hi),.int .i64 (wd)] 178∧Box V (w.heap.size+1+1) #[.int .i64 (0),.int .i64 (0)] 31∧Box V O #[.int .i64 (0),.int .i64 (0)] 31) ⟨Up.go,Box.go,Box.go,by rw [← hO];exact Box.go⟩ ?_
 rintro V0 ⟨hu0,b0,d0,e0⟩
 clear hO
 have HB0:=hide (And.intro hu0 (And.intro b0 (And.intro d0 e0)))
 refine (HC.out _).mono ?_
 intro pc
 go_wp2_with fail
 refine forgetW (fun V=>Up V0 V) Up.go ?_
 intro Y0 hy0
 have HY0:=hide hy0
 clear hu0 b0 d0 e0 hy0
 refine wp_loop_rounds 5 ?_
 rw [rounds_succ]
 have b0:=HB0.out.2.1.up HY0.out
 obtain ⟨t0,t1,t2,t3,t4,t5,t6,t7,t8⟩:=b0.c9
 have lt:=b0.lt
 clear b0
 go_wp2_with fail
 go_at_call 304
 refine forgetK (fun V=>Up Y0 V) (Up.viz ((Up.refl Y0))) ?_
 intro V1 hv
 have HB1:=hide (And.intro (HB0.out.1.trans (HY0.out.trans hv)) (And.intro (HB0.out.2.1.up (HY0.out.trans hv)) (And.intro (HB0.out.2.2.1.up (HY0.out.trans hv)) (HB0.out.2.2.2.up (HY0.out.trans hv)))))
 clear hv HB0 HY0 t0 t1 t2 t3 t4 t5 t6 t7 t8 lt
 refine (H0s.out _).mono ?_
 intro p1
 have hOw:=HB1.out.2.2.2.lt
 obtain ⟨t0,t1,t2,t3,t4,t5,t6,t7,t8⟩:=HB1.out.2.1.c9
 have lt:=HB1.out.2.1.lt
 obtain ⟨v0,v1⟩:=HB1.out.2.2.2.c2
 have lv:=HB1.out.2.2.2.lt
 obtain ⟨fv0,fv1⟩:=HB1.out.2.2.2.f2
 go_wp2_with fail
 rw [rounds_succ]
 go_wp2_with fail
 go_at_call 304
 refine forgetK (fun V=>Up w V∧Box V w.heap.size #[.int .i64 (wx),.int .i64 (wy),.int .i64 (fr),.int .i64 (er),.int .i64 (dx),.int .i64 (dy),.int .i64 (lo),.int .i64 (hi),.int .i64 (wd)] 178∧Box V (w.heap.size+1+1) #[.int .i64 (0),.int .i64 (0)] 31∧Box V O #[.int .i64 (l0),.int .i64 (h0)] 31) ⟨(Up.viz HB1.out.1),(Box.viz HB1.out.2.1),(Box.viz HB1.out.2.2.1),?_⟩ ?_
 · exact (by (repeat (first|with_reducible apply Box.ext|with_reducible apply Box.alloc|with_reducible apply Box.drew|(with_reducible refine Box.other ?_ (by omega) _ _)));exact (((HB1.out.2.2.2.set 0 (.int .i64 l0)).set 1 (.int .i64 h0)).set 0 (.int .i64 l0)).set 1 (.int .i64 h0))
 clear HB1 t0 t1 t2 t3 t4 t5 t6 t7 t8 lt v0 v1 lv fv0 fv1
 rintro V2 ⟨hu0,b0,d0,e0⟩
 have HB2:=hide (And.intro hu0 (And.intro b0 (And.intro d0 e0)))
 clear hOw hu0 b0 d0 e0
 refine (H1s.out _).mono ?_
 intro p2
 have hOw:=HB2.out.2.2.2.lt
 obtain ⟨t0,t1,t2,t3,t4,t5,t6,t7,t8⟩:=HB2.out.2.1.c9
 have lt:=HB2.out.2.1.lt
 obtain ⟨v0,v1⟩:=HB2.out.2.2.2.c2
 have lv:=HB2.out.2.2.2.lt
 obtain ⟨fv0,fv1⟩:=HB2.out.2.2.2.f2
 go_wp2_with fail
 rw [rounds_succ]
 go_wp2_with fail
 go_at_call 304
 obtain ⟨L1,hL1⟩:∃ x,min l0 l1=x:=⟨_,rfl⟩
 obtain ⟨H1,hH1⟩:∃ x,max h0 h1=x:=⟨_,rfl⟩
 try rw [hL1,hH1]
 have HLH1:=hide (And.intro hL1 hH1)
 clear hL1 hH1
 refine forgetK (fun V=>Up w V∧Box V w.heap.size #[.int .i64 (wx),.int .i64 (wy),.int .i64 (fr),.int .i64 (er),.int .i64 (dx),.int .i64 (dy),.int .i64 (lo),.int .i64 (hi),.int .i64 (wd)] 178∧Box V (w.heap.size+1+1) #[.int .i64 (0),.int .i64 (0)] 31∧Box V O #[.int .i64 (L1),.int .i64 (H1)] 31) ⟨(Up.viz HB2.out.1),(Box.viz HB2.out.2.1),(Box.viz HB2.out.2.2.1),?_⟩ ?_
 · exact (by (repeat (first|with_reducible apply Box.ext|with_reducible apply Box.alloc|with_reducible apply Box.drew|(with_reducible refine Box.other ?_ (by omega) _ _)));exact (HB2.out.2.2.2.set 0 (.int .i64 L1)).set 1 (.int .i64 H1))
 clear HB2 t0 t1 t2 t3 t4 t5 t6 t7 t8 lt v0 v1 lv fv0 fv1
 rintro V3 ⟨hu0,b0,d0,e0⟩
 have HB3:=hide (And.intro hu0 (And.intro b0 (And.intro d0 e0)))
 clear hOw hu0 b0 d0 e0
 refine (H2s.out _).mono ?_
 intro p3
 have hOw:=HB3.out.2.2.2.lt
 obtain ⟨t0,t1,t2,t3,t4,t5,t6,t7,t8⟩:=HB3.out.2.1.c9
 have lt:=HB3.out.2.1.lt
 obtain ⟨v0,v1⟩:=HB3.out.2.2.2.c2
 have lv:=HB3.out.2.2.2.lt
 obtain ⟨fv0,fv1⟩:=HB3.out.2.2.2.f2
 go_wp2_with fail
 rw [rounds_succ]
 go_wp2_with fail
 go_at_call 304
 obtain ⟨L2,hL2⟩:∃ x,min L1 l2=x:=⟨_,rfl⟩
 obtain ⟨H2,hH2⟩:∃ x,max H1 h2=x:=⟨_,rfl⟩
 try rw [hL2,hH2]
 have HLH2:=hide (And.intro hL2 hH2)
 clear hL2 hH2
 refine forgetK (fun V=>Up w V∧Box V w.heap.size #[.int .i64 (wx),.int .i64 (wy),.int .i64 (fr),.int .i64 (er),.int .i64 (dx),.int .i64 (dy),.int .i64 (lo),.int .i64 (hi),.int .i64 (wd)] 178∧Box V (w.heap.size+1+1) #[.int .i64 (0),.int .i64 (0)] 31∧Box V O #[.int .i64 (L2),.int .i64 (H2)] 31) ⟨(Up.viz HB3.out.1),(Box.viz HB3.out.2.1),(Box.viz HB3.out.2.2.1),?_⟩ ?_
 · exact (by (repeat (first|with_reducible apply Box.ext|with_reducible apply Box.alloc|with_reducible apply Box.drew|(with_reducible refine Box.other ?_ (by omega) _ _)));exact (HB3.out.2.2.2.set 0 (.int .i64 L2)).set 1 (.int .i64 H2))
 clear HB3 t0 t1 t2 t3 t4 t5 t6 t7 t8 lt v0 v1 lv fv0 fv1
 rintro V4 ⟨hu0,b0,d0,e0⟩
 have HB4:=hide (And.intro hu0 (And.intro b0 (And.intro d0 e0)))
 clear hOw hu0 b0 d0 e0
 refine (H3s.out _).mono ?_
 intro p4
 have hOw:=HB4.out.2.2.2.lt
 obtain ⟨t0,t1,t2,t3,t4,t5,t6,t7,t8⟩:=HB4.out.2.1.c9
 have lt:=HB4.out.2.1.lt
 obtain ⟨v0,v1⟩:=HB4.out.2.2.2.c2
 have lv:=HB4.out.2.2.2.lt
 obtain ⟨fv0,fv1⟩:=HB4.out.2.2.2.f2
 go_wp2_with fail
 obtain ⟨L3,hL3⟩:∃ x,min L2 l3=x:=⟨_,rfl⟩
 obtain ⟨H3,hH3⟩:∃ x,max H2 h3=x:=⟨_,rfl⟩
 try rw [hL3,hH3]
 have HLH3:=hide (And.intro hL3 hH3)
 clear hL3 hH3
 refine forgetW (fun V=>Up w V∧Box V w.heap.size #[.int .i64 (wx),.int .i64 (wy),.int .i64 (fr),.int .i64 (er),.int .i64 (dx),.int .i64 (dy),.int .i64 (lo),.int .i64 (hi),.int .i64 (wd)] 178∧Box V (w.heap.size+1+1) #[.int .i64 (0),.int .i64 (0)] 31∧Box V O #[.int .i64 (L3),.int .i64 (H3)] 31) ⟨(Up.viz HB4.out.1),(Box.viz HB4.out.2.1),(Box.viz HB4.out.2.2.1),?_⟩ ?_
 · exact (by (repeat (first|with_reducible apply Box.ext|with_reducible apply Box.alloc|with_reducible apply Box.drew|(with_reducible refine Box.other ?_ (by omega) _ _)));exact (HB4.out.2.2.2.set 0 (.int .i64 L3)).set 1 (.int .i64 H3))
 clear HB4 t0 t1 t2 t3 t4 t5 t6 t7 t8 lt v0 v1 lv fv0 fv1
 rintro V5 ⟨hu0,b0,d0,e0⟩
 have HB5:=hide (And.intro hu0 (And.intro b0 (And.intro d0 e0)))
 have eL:L3=L:=by have h1:=HLH1.out.1;have h2:=HLH2.out.1;have h3:=HLH3.out.1;have h:=HLG.out.1;omega
 have eH:H3=G:=by have h1:=HLH1.out.2;have h2:=HLH2.out.2;have h3:=HLH3.out.2;have h:=HLG.out.2;omega
 subst eL eH
 obtain ⟨t0,t1,t2,t3,t4,t5,t6,t7,t8⟩:=b0.c9
 have lt:=b0.lt
 obtain ⟨v0,v1⟩:=e0.c2
 have lv:=e0.lt
 obtain ⟨z0,z1⟩:=d0.c2
 have lz:=d0.lt
 obtain ⟨fz0,fz1⟩:=d0.f2
 clear hu0 b0 d0 e0
 rw [rounds_succ]
 go_wp2_with fail
 refine forgetW (fun WF=>Up w WF∧Box WF (w.heap.size+1+1) #[.int .i64 (L3 - hi - er),.int .i64 (H3 - lo+er)] 31) ⟨(Up.viz HB5.out.1),?_⟩ ?_
 · exact (by (repeat (first|with_reducible apply Box.ext|with_reducible apply Box.alloc|with_reducible apply Box.drew));exact (HB5.out.2.2.1.set 0 (.int .i64 (L3 - hi - er))).set 1 (.int .i64 (H3 - lo+er)))
 rintro WF ⟨huF,hbF⟩
 obtain ⟨w0,w1⟩:=hbF.c2
 (refine bodyPost_give huF rfl ⟨_,(by simp [results,Tryz.results300,go_sem,w0,w1];rfl),?_⟩)
 rfl
def kndV (k:KndD):Value:=if k.sc=true then .iface 178 (.agg (scopeA k)) else .iface 175 (.agg (postA k))
theorem wof1_any (p:Int×Int×Int) (o:OffD) {b:Nat} {w:World} (hb:Box w b (offA o) 50):Gives Tryz.prog 95 (#[.agg #[.int .i64 p.1,.int .i64 p.2.1,.int .i64 p.2.2]]++#[.pointer (some ⟨b,0,none⟩)]) w (.bool (p.1==o.catalog)):=by
 have c0:=hb.cell 2 rfl
 have lb:=hb.lt
 show Gives Tryz.prog 95 #[.agg #[.int .i64 p.1,.int .i64 p.2.1,.int .i64 p.2.2],.pointer (some ⟨b,0,none⟩)] w (.bool (p.1==o.catalog))
 clear hb
 (unfold Gives;go_enter Tryz.func95,Tryz.ntmps95)
 go_wp2
 go_ret
 exact ⟨rfl,Up.go⟩
theorem wof_any {K:Nat→Prop} {w:World} {a sa ca:Option Addr} {n c sn sc cn cc:Nat} {s:SkyD} (hb:Bods K w (.slice a n c) s.bodies) (hh:I64 s.home) (hs:Tris K w (.slice sa sn sc) s.stations) (hc:Tris K w (.slice ca cn cc) s.catalogs) {o:OffD} (he:offE s o=0) :
 Gives Tryz.prog 50 #[.agg #[.slice a n c,.int .i64 s.home,.slice sa sn sc,.slice ca cn cc],.agg (offA o)] w (kndV (kndOf s o)):=by
 have HWH:=hide (fun W (hu:Up w W)=>skwhere_any (hb.keeps (hu.keeps K)) hh (hs.keeps (hu.keeps K)) (hc.keeps (hu.keeps K)) o.station o.tick)
 obtain ⟨hsk,hk,_,_,_,_,_,hrest⟩:=offE_zero he
 unfold kndV kndOf
 by_cases h2:o.kind=2
 · rw [if_pos h2,if_neg (by simp)]
   generalize whereV s o.station o.tick=P at *
   obtain ⟨P1,P2,P3⟩:=P
   obtain ⟨kd,st,ct,tk,dx,dy,er,fr,wd,co,su⟩:=o
   dsimp only at h2 HWH ⊢
   subst h2
   generalize s.home=home at *
   clear hb hs hc he hk hsk hrest
   (unfold Gives;go_enter Tryz.func50,Tryz.ntmps50)
   go_wp2_with fail
   go_at_call 93
   refine forgetK (fun V=>Up w V∧Box V (w.heap.size+1) #[.int .i64 2,.int .i64 st,.int .i64 ct,.int .i64 tk,.int .i64 dx,.int .i64 dy,.int .i64 er,.int .i64 fr,.int .i64 wd,.int .i64 co,.bool su] 50) ⟨Up.go,Box.go⟩ ?_
   rintro V ⟨hu,hx⟩
   refine (HWH.out V hu).mono ?_
   intro p1
   obtain ⟨y0,y1,y2,y3,y4,y5,y6,y7,y8,y9,y10⟩:=hx.c11
   have ly:=hx.lt
   have HB:=hide hu
   clear hu hx
   go_wp2
   go_ret
   exact ⟨rfl,(Up.via HB.out)⟩
 · obtain ⟨hcat,_⟩:=hrest h2
   obtain ⟨x,hx,_,hbias,_⟩:=bias_ok hsk hcat
   obtain ⟨j,hj,hxj⟩:=firstI_some hx
   have HI:=hide (fun W (hu:Up w W) (hq:Box W (w.heap.size+1) (offA o) 50)=>ixcat_any 95 #[.pointer (some ⟨w.heap.size+1,0,none⟩)] (enters_of Tryz.func95 (by kernel_rfl) rfl) (fun x=>x.1==o.catalog) (hc.keeps (hu.keeps K)) (fun p W2 _ hu2=>wof1_any p o (hq.up hu2)))
   rw [hj] at HI
   have hcn:=(Tris.at hc).1
   have hjn:j<cn:=by have:=(List.getElem?_eq_some_iff.1 hxj).1;omega
   obtain ⟨b0,o0,p,ea,_,hb0,hp,hpi,d0,d1,d2⟩:=(Tris.at hc).2.2 j hjn
   rw [hxj] at hp
   cases hp
   subst ea
   have hkd:o.kind=1:=by omega
   rw [if_neg h2,if_pos rfl,hbias]
   generalize whereV s o.station o.tick=P at *
   obtain ⟨P1,P2,P3⟩:=P
   obtain ⟨x0,x1,x2⟩:=x
   obtain ⟨kd,st,ct,tk,dx,dy,er,fr,wd,co,su⟩:=o
   dsimp only at h2 hkd HWH HI d0 d1 d2 ⊢
   subst hkd
   generalize s.home=home at *
   have HP:=hide (And.intro hb0 (And.intro d1 d2))
   have hjb:decide ((j:Int)<0)=false:=by simp
   clear hb hs hc he hk hsk hrest hcat hx hbias hj hxj hcn hpi d0 d1 d2 h2
   (unfold Gives;go_enter Tryz.func50,Tryz.ntmps50)
   go_wp2_with fail
   go_at_call 93
   refine forgetK (fun V=>Up w V∧Box V w.heap.size #[.slice a n c,.int .i64 home,.slice sa sn sc,.slice (some ⟨b0,o0,none⟩) cn cc] 29∧Box V (w.heap.size+1) #[.int .i64 1,.int .i64 st,.int .i64 ct,.int .i64 tk,.int .i64 dx,.int .i64 dy,.int .i64 er,.int .i64 fr,.int .i64 wd,.int .i64 co,.bool su] 50) ⟨Up.go,Box.go,Box.go⟩ ?_
   rintro V ⟨hu,hy,hx⟩
   refine (HWH.out V hu).mono ?_
   intro p1
   obtain ⟨y0,y1,y2,y3,y4,y5,y6,y7,y8,y9,y10⟩:=hx.c11
   have ly:=hx.lt
   have HB:=hide (And.intro hu (And.intro hy hx))
   have s2:=hy.cell 3 rfl
   have ls:=hy.lt
   clear hu hx hy
   go_wp2_with fail
   go_at_call 94
   obtain ⟨Q7,hQ7⟩:∃ T,V.heap.size+p1.os.size+1=T:=⟨_,rfl⟩
   try rw [hQ7]
   refine forgetK (fun Y=>Up w Y∧Box Y w.heap.size #[.slice a n c,.int .i64 home,.slice sa sn sc,.slice (some ⟨b0,o0,none⟩) cn cc] 29∧Box Y (w.heap.size+1) #[.int .i64 1,.int .i64 st,.int .i64 ct,.int .i64 tk,.int .i64 dx,.int .i64 dy,.int .i64 er,.int .i64 fr,.int .i64 wd,.int .i64 co,.bool su] 50∧Box Y Q7 #[.int .i64 (P1),.int .i64 (P2),.int .i64 (fr),.int .i64 (er)] 173) ⟨(by repeat (first|with_reducible exact HB.out.1|with_reducible apply Up.ext|with_reducible apply Up.alloc|with_reducible apply Up.drew|(with_reducible refine Up.setCell ?_ (by simp only;omega) _))),(Box.viz HB.out.2.1),(Box.viz HB.out.2.2),by rw [← hQ7];exact Box.go⟩ ?_
   rintro Y ⟨hu,hy,hx,hq⟩
   clear hQ7 HB s2 ls y0 y1 y2 y3 y4 y5 y6 y7 y8 y9 y10 ly
   refine (HI.out Y hu hx).mono ?_
   intro p2
   obtain ⟨y0,y1,y2,y3,y4,y5,y6,y7,y8,y9,y10⟩:=hx.c11
   have ly:=hx.lt
   have s2:=hy.cell 3 rfl
   have ls:=hy.lt
   obtain ⟨q0,q1,q2,q3⟩:=hq.c4
   have lq:=hq.lt
   have e1:Y.cell? ⟨b0,o0+j*3+1,none⟩=some (.int .i64 x1):=(World.cell?_of_block (a:=⟨b0,o0+j*3+1,none⟩) (hu.below.block b0 HP.out.1)).trans HP.out.2.1
   have e2:Y.cell? ⟨b0,o0+j*3+2,none⟩=some (.int .i64 x2):=(World.cell?_of_block (a:=⟨b0,o0+j*3+2,none⟩) (hu.below.block b0 HP.out.1)).trans HP.out.2.2
   have lb0:b0<Y.heap.size:=Nat.lt_of_lt_of_le HP.out.1 hu.below.size
   have HB2:=hide hu
   clear hu hx hy hq
   go_wp2_with fail
   ((first | with_reducible refine wp_region_ext2 (by kernel_rfl) (by kernel_rfl) ?_ | refine wp_region_ext (by kernel_rfl) (by kernel_rfl) ?_);(repeat (go_big_quiet_step (fail)));refine wpQuiet_nil ?_;intro _ hw';obtain ⟨_,hw''⟩:=hw';subst hw'')
   go_wp2
   go_ret
   exact ⟨rfl,(Up.via HB2.out)⟩
abbrev viewA (v:Bool×Bool×Int×Int):Array Value:=#[.bool v.1,.bool v.2.1,.int .i64 v.2.2.1,.int .i64 v.2.2.2]
theorem meth_r (k:KndD) (n:Nat) (w:World):(method (n+1) 175 (.agg (postA k)) mMay).run Tryz.prog w=.ok (292,.agg (postA k)) w∧(method (n+1) 175 (.agg (postA k)) mField).run Tryz.prog w=.ok (291,.agg (postA k)) w ∧
 (method (n+1) 175 (.agg (postA k)) mValues).run Tryz.prog w=.ok (294,.agg (postA k)) w∧(method (n+1) 175 (.agg (postA k)) mReads).run Tryz.prog w=.ok (293,.agg (postA k)) w:=⟨by kernel_rfl,by kernel_rfl,by kernel_rfl,by kernel_rfl⟩
theorem wview_r {k:KndD} {a:Ar4} (hk:KBd k) (ha:ABd a) (hs:k.sc=false) (w:World):Gives Tryz.prog 52 #[.iface 175 (.agg (postA k)),.agg #[.int .i64 (a.1),.int .i64 (a.2.1),.int .i64 (a.2.2.1),.int .i64 (a.2.2.2)]] w (.agg (viewA (viewK k a))):=by
 have HM:=hide (fun W=>wrmay_any hk ha hs W)
 have HV:=hide (fun W=>wrvalues_any hk ha hs W)
 have hm1:=fun (n:Nat) (w:World)=>(meth_r k n w).1
 have hm2:=fun (n:Nat) (w:World)=>(meth_r k n w).2.1
 have hm3:=fun (n:Nat) (w:World)=>(meth_r k n w).2.2.1
 have HF:=hide (fun W=>wall_m (w:=W) 291 hm2 (enters_of Tryz.func291 (by kernel_rfl) rfl) (fieldK k) ha (fun p W2 hp hu2=>wrfield_any hk ((corner_in ha p hp).bd ha) hs W2))
 simp only [mMay,mField,mValues,theName] at hm1 hm2 hm3 HF
 unfold viewK clampS
 generalize mayK k a=MY at *
 generalize (cornersA a).all (fieldK k)=SU at *
 generalize valuesK k a=V at *
 obtain ⟨V1,V2⟩:=V
 obtain ⟨x0,x1,y0,y1⟩:=a
 dsimp only at *
 unfold postA at *
 generalize k.wx=wx at *
 generalize k.wy=wy at *
 generalize k.far=fr at *
 generalize k.err=er at *
 clear hk ha hs hm2
 cases MY
 all_goals
  (unfold Gives;go_enter Tryz.func52,Tryz.ntmps52)
  go_wp2_with fail
  refine forgetW (fun V=>Up w V∧Box V w.heap.size #[.int .i64 (x0),.int .i64 (x1),.int .i64 (y0),.int .i64 (y1)] 61∧Box V (w.heap.size+1) #[.bool false,.bool false,.int .i64 0,.int .i64 0] 64) ⟨Up.go,Box.go,Box.go⟩ ?_
  rintro V0 ⟨hu,hx,hy⟩
  have HB0:=hide (And.intro hu (And.intro hx hy))
  obtain ⟨a0,a1,a2,a3⟩:=hx.c4
  have la:=hx.lt
  have hyl:=hy.lt
  clear hu hx hy
  refine wp_region_float (al:=[(9,5,#[.bool false,.bool false,.int .i64 0,.int .i64 0],64)]) (mv:=fun _=>false) [10] [0,1,2,3,4,5,6,7,8] (by kernel_rfl) (by kernel_rfl) (makes1 ⟨_,rfl,rfl,fun _=>rfl,fun _ _=>by simp [go_sem]⟩) (cls_ext _) (by first|exact drew_in2 _ _|exact drew_in _) (Nat.le_refl _) ?_
  simp only [withOps,List.filterMap_cons,List.filterMap_nil,List.getElem?_toArray,List.getElem?_cons_zero,List.getElem?_cons_succ,Option.map_some]
  (repeat (first|(apply walkF_pure (base:=fun p:Ext=>ext _ p) rfl rfl rfl (by kernel_rfl);· (intro px K hK;go_big_quiet_op;first|exact hK|(apply Exists.intro;refine ⟨fun _=>?_,?_⟩;(· ((first|(go_at_call 292;with_reducible exact Gives.inFloat (HM.out _))|(go_at_call 96;with_reducible exact Gives.inFloat (HF.out _)))));exact hK)))|(apply walkF_skip rfl;simp only [Act.put,List.setIfInBounds_toArray,List.set_cons_zero,List.set_cons_succ])))
  refine walkF_nil (end1 (fun Q U hq hU bq=>?_))
  simp only [Act.put,List.setIfInBounds_toArray,List.set_cons_zero,List.set_cons_succ]
  (try simp only [List.filterMap_cons,List.filterMap_nil,List.getElem?_toArray,List.getElem?_cons_zero,List.getElem?_cons_succ])
  have hU1:Up V0 U:=hU
  have HB:=hide (And.intro (HB0.out.1.trans hU1) (And.intro (HB0.out.2.1.up hU1) (And.intro (HB0.out.2.2.up hU1) bq)))
  obtain ⟨q0,q1,q2,q3⟩:=bq.c4
  have lq:=bq.lt
  obtain ⟨fq0,fq1,fq2,fq3⟩:=bq.f4
  have hwQ:w.heap.size≤Q:=by have:=HB0.out.1.below.size;omega
  have n1:w.heap.size≠Q:=by omega
  have n2:w.heap.size+1≠Q:=by omega
  have n3:Q≠w.heap.size+1:=by omega
  have n4:Q≠w.heap.size:=by omega
  clear hU hU1 bq a0 a1 a2 a3 la hyl HB0
  obtain ⟨a0,a1,a2,a3⟩:=HB.out.2.1.c4
  have la:=HB.out.2.1.lt
  obtain ⟨r0,r1,r2,r3⟩:=HB.out.2.2.1.c4
  have lr:=HB.out.2.2.1.lt
  obtain ⟨fr0,fr1,fr2,fr3⟩:=HB.out.2.2.1.f4
  go_wp2_with fail
 · refine forgetW (fun WF=>Up w WF∧Box WF (w.heap.size+1) #[.bool false,.bool SU,.int .i64 0,.int .i64 0] 64) ⟨(Up.viz HB.out.1),?_⟩ ?_
   · exact (by (repeat (first|with_reducible apply Box.ext|with_reducible apply Box.alloc|with_reducible apply Box.drew));exact ((((((((HB.out.2.2.1.other (b':=Q) n2 0 (.bool false)).other (b':=Q) n2 1 (.bool SU)).other (b':=Q) n2 2 (.int .i64 0)).other (b':=Q) n2 3 (.int .i64 0)).set 0 (.bool false)).set 1 (.bool SU)).set 2 (.int .i64 0)).set 3 (.int .i64 0)))
   rintro WF ⟨huF,hbF⟩
   obtain ⟨w0,w1,w2,w3⟩:=hbF.c4
   (refine bodyPost_give huF rfl ⟨_,(by simp [results,Tryz.results52,go_sem,w0,w1,w2,w3];rfl),?_⟩)
   rfl
 · go_at_call 294
   refine forgetK (fun V=>Up w V∧Box V (w.heap.size+1) #[.bool false,.bool false,.int .i64 0,.int .i64 0] 64∧Box V Q #[.bool true,.bool SU,.int .i64 0,.int .i64 0] 64) ⟨(Up.viz HB.out.1),(Box.viz HB.out.2.2.1),?_⟩ ?_
   · exact (by (repeat (first|with_reducible apply Box.ext|with_reducible apply Box.alloc|with_reducible apply Box.drew));exact ((((HB.out.2.2.2.set 0 (.bool true)).set 1 (.bool SU)).set 2 (.int .i64 0)).set 3 (.int .i64 0)))
   rintro V ⟨hu,hy,hq2⟩
   have HB2:=hide (And.intro hu (And.intro hy hq2))
   clear HB a0 a1 a2 a3 la r0 r1 r2 r3 lr fr0 fr1 fr2 fr3 q0 q1 q2 q3 lq fq0 fq1 fq2 fq3 hu hy hq2
   refine (HV.out _).mono ?_
   intro pv
   obtain ⟨q0,q1,q2,q3⟩:=HB2.out.2.2.c4
   have lq:=HB2.out.2.2.lt
   have fq2:=HB2.out.2.2.frozen 2
   have fq3:=HB2.out.2.2.frozen 3
   obtain ⟨r0,r1,r2,r3⟩:=HB2.out.2.1.c4
   have lr:=HB2.out.2.1.lt
   obtain ⟨fr0,fr1,fr2,fr3⟩:=HB2.out.2.1.f4
   go_wp2_with fail
   refine forgetW (fun WF=>Up w WF∧Box WF (w.heap.size+1) #[.bool true,.bool SU,.int .i64 (min (max V1 (-1099511627776)) 1099511627776),.int .i64 (min (max V2 (-1099511627776)) 1099511627776)] 64) ⟨(Up.viz HB2.out.1),?_⟩ ?_
   · exact (by (repeat (first|with_reducible apply Box.ext|with_reducible apply Box.alloc|with_reducible apply Box.drew));exact ((((((HB2.out.2.1.other (b':=Q) n2 2 (.int .i64 (min (max V1 (-1099511627776)) 1099511627776))).other (b':=Q) n2 3 (.int .i64 (min (max V2 (-1099511627776)) 1099511627776))).set 0 (.bool true)).set 1 (.bool SU)).set 2 (.int .i64 (min (max V1 (-1099511627776)) 1099511627776))).set 3 (.int .i64 (min (max V2 (-1099511627776)) 1099511627776))))
   rintro WF ⟨huF,hbF⟩
   obtain ⟨w0,w1,w2,w3⟩:=hbF.c4
   (refine bodyPost_give huF rfl ⟨_,(by simp [results,Tryz.results52,go_sem,w0,w1,w2,w3];rfl),?_⟩)
   rfl
theorem meth_s (k:KndD) (n:Nat) (w:World):(method (n+1) 178 (.agg (scopeA k)) mMay).run Tryz.prog w=.ok (298,.agg (scopeA k)) w∧(method (n+1) 178 (.agg (scopeA k)) mField).run Tryz.prog w=.ok (297,.agg (scopeA k)) w ∧
 (method (n+1) 178 (.agg (scopeA k)) mValues).run Tryz.prog w=.ok (300,.agg (scopeA k)) w∧(method (n+1) 178 (.agg (scopeA k)) mReads).run Tryz.prog w=.ok (299,.agg (scopeA k)) w:=⟨by kernel_rfl,by kernel_rfl,by kernel_rfl,by kernel_rfl⟩
theorem wview_s {k:KndD} {a:Ar4} (hk:KBd k) (ha:ABd a) (hs:k.sc=true) (w:World):Gives Tryz.prog 52 #[.iface 178 (.agg (scopeA k)),.agg #[.int .i64 (a.1),.int .i64 (a.2.1),.int .i64 (a.2.2.1),.int .i64 (a.2.2.2)]] w (.agg (viewA (viewK k a))):=by
 have HM:=hide (fun W=>wsmay_any hk ha hs W)
 have HV:=hide (fun W=>wsvalues_any hk ha hs W)
 have hm1:=fun (n:Nat) (w:World)=>(meth_s k n w).1
 have hm2:=fun (n:Nat) (w:World)=>(meth_s k n w).2.1
 have hm3:=fun (n:Nat) (w:World)=>(meth_s k n w).2.2.1
 have HF:=hide (fun W=>wall_m (w:=W) 297 hm2 (enters_of Tryz.func297 (by kernel_rfl) rfl) (fieldK k) ha (fun p W2 hp hu2=>wsfield_any hk ((corner_in ha p hp).bd ha) hs W2))
 simp only [mMay,mField,mValues,theName] at hm1 hm2 hm3 HF
 unfold viewK clampS
 generalize mayK k a=MY at *
 generalize (cornersA a).all (fieldK k)=SU at *
 generalize valuesK k a=V at *
 obtain ⟨V1,V2⟩:=V
 obtain ⟨x0,x1,y0,y1⟩:=a
 dsimp only at *
 unfold scopeA at *
 generalize k.wx=wx at *
 generalize k.wy=wy at *
 generalize k.far=fr at *
 generalize k.err=er at *
 generalize k.dx=dx at *
 generalize k.dy=dy at *
 generalize k.lo=lo at *
 generalize k.hi=hi at *
 generalize k.wide=wd at *
 clear hk ha hs hm2
 cases MY
 all_goals
  (unfold Gives;go_enter Tryz.func52,Tryz.ntmps52)
  go_wp2_with fail
  refine forgetW (fun V=>Up w V∧Box V w.heap.size #[.int .i64 (x0),.int .i64 (x1),.int .i64 (y0),.int .i64 (y1)] 61∧Box V (w.heap.size+1) #[.bool false,.bool false,.int .i64 0,.int .i64 0] 64) ⟨Up.go,Box.go,Box.go⟩ ?_
  rintro V0 ⟨hu,hx,hy⟩
  have HB0:=hide (And.intro hu (And.intro hx hy))
  obtain ⟨a0,a1,a2,a3⟩:=hx.c4
  have la:=hx.lt
  have hyl:=hy.lt
  clear hu hx hy
  refine wp_region_float (al:=[(9,5,#[.bool false,.bool false,.int .i64 0,.int .i64 0],64)]) (mv:=fun _=>false) [10] [0,1,2,3,4,5,6,7,8] (by kernel_rfl) (by kernel_rfl) (makes1 ⟨_,rfl,rfl,fun _=>rfl,fun _ _=>by simp [go_sem]⟩) (cls_ext _) (by first|exact drew_in2 _ _|exact drew_in _) (Nat.le_refl _) ?_
  simp only [withOps,List.filterMap_cons,List.filterMap_nil,List.getElem?_toArray,List.getElem?_cons_zero,List.getElem?_cons_succ,Option.map_some]
  (repeat (first|(apply walkF_pure (base:=fun p:Ext=>ext _ p) rfl rfl rfl (by kernel_rfl);· (intro px K hK;go_big_quiet_op;first|exact hK|(apply Exists.intro;refine ⟨fun _=>?_,?_⟩;(· ((first|(go_at_call 298;with_reducible exact Gives.inFloat (HM.out _))|(go_at_call 96;with_reducible exact Gives.inFloat (HF.out _)))));exact hK)))|(apply walkF_skip rfl;simp only [Act.put,List.setIfInBounds_toArray,List.set_cons_zero,List.set_cons_succ])))
  refine walkF_nil (end1 (fun Q U hq hU bq=>?_))
  simp only [Act.put,List.setIfInBounds_toArray,List.set_cons_zero,List.set_cons_succ]
  (try simp only [List.filterMap_cons,List.filterMap_nil,List.getElem?_toArray,List.getElem?_cons_zero,List.getElem?_cons_succ])
  have hU1:Up V0 U:=hU
  have HB:=hide (And.intro (HB0.out.1.trans hU1) (And.intro (HB0.out.2.1.up hU1) (And.intro (HB0.out.2.2.up hU1) bq)))
  obtain ⟨q0,q1,q2,q3⟩:=bq.c4
  have lq:=bq.lt
  obtain ⟨fq0,fq1,fq2,fq3⟩:=bq.f4
  have hwQ:w.heap.size≤Q:=by have:=HB0.out.1.below.size;omega
  have n1:w.heap.size≠Q:=by omega
  have n2:w.heap.size+1≠Q:=by omega
  have n3:Q≠w.heap.size+1:=by omega
  have n4:Q≠w.heap.size:=by omega
  clear hU hU1 bq a0 a1 a2 a3 la hyl HB0
  obtain ⟨a0,a1,a2,a3⟩:=HB.out.2.1.c4
  have la:=HB.out.2.1.lt
  obtain ⟨r0,r1,r2,r3⟩:=HB.out.2.2.1.c4
  have lr:=HB.out.2.2.1.lt
  obtain ⟨fr0,fr1,fr2,fr3⟩:=HB.out.2.2.1.f4
  go_wp2_with fail
 · refine forgetW (fun WF=>Up w WF∧Box WF (w.heap.size+1) #[.bool false,.bool SU,.int .i64 0,.int .i64 0] 64) ⟨(Up.viz HB.out.1),?_⟩ ?_
   · exact (by (repeat (first|with_reducible apply Box.ext|with_reducible apply Box.alloc|with_reducible apply Box.drew));exact ((((((((HB.out.2.2.1.other (b':=Q) n2 0 (.bool false)).other (b':=Q) n2 1 (.bool SU)).other (b':=Q) n2 2 (.int .i64 0)).other (b':=Q) n2 3 (.int .i64 0)).set 0 (.bool false)).set 1 (.bool SU)).set 2 (.int .i64 0)).set 3 (.int .i64 0)))
   rintro WF ⟨huF,hbF⟩
   obtain ⟨w0,w1,w2,w3⟩:=hbF.c4
   (refine bodyPost_give huF rfl ⟨_,(by simp [results,Tryz.results52,go_sem,w0,w1,w2,w3];rfl),?_⟩)
   rfl
 · go_at_call 300
   refine forgetK (fun V=>Up w V∧Box V (w.heap.size+1) #[.bool false,.bool false,.int .i64 0,.int .i64 0] 64∧Box V Q #[.bool true,.bool SU,.int .i64 0,.int .i64 0] 64) ⟨(Up.viz HB.out.1),(Box.viz HB.out.2.2.1),?_⟩ ?_
   · exact (by (repeat (first|with_reducible apply Box.ext|with_reducible apply Box.alloc|with_reducible apply Box.drew));exact ((((HB.out.2.2.2.set 0 (.bool true)).set 1 (.bool SU)).set 2 (.int .i64 0)).set 3 (.int .i64 0)))
   rintro V ⟨hu,hy,hq2⟩
   have HB2:=hide (And.intro hu (And.intro hy hq2))
   clear HB a0 a1 a2 a3 la r0 r1 r2 r3 lr fr0 fr1 fr2 fr3 q0 q1 q2 q3 lq fq0 fq1 fq2 fq3 hu hy hq2
   refine (HV.out _).mono ?_
   intro pv
   obtain ⟨q0,q1,q2,q3⟩:=HB2.out.2.2.c4
   have lq:=HB2.out.2.2.lt
   have fq2:=HB2.out.2.2.frozen 2
   have fq3:=HB2.out.2.2.frozen 3
   obtain ⟨r0,r1,r2,r3⟩:=HB2.out.2.1.c4
   have lr:=HB2.out.2.1.lt
   obtain ⟨fr0,fr1,fr2,fr3⟩:=HB2.out.2.1.f4
   go_wp2_with fail
   refine forgetW (fun WF=>Up w WF∧Box WF (w.heap.size+1) #[.bool true,.bool SU,.int .i64 (min (max V1 (-1099511627776)) 1099511627776),.int .i64 (min (max V2 (-1099511627776)) 1099511627776)] 64) ⟨(Up.viz HB2.out.1),?_⟩ ?_
   · exact (by (repeat (first|with_reducible apply Box.ext|with_reducible apply Box.alloc|with_reducible apply Box.drew));exact ((((((HB2.out.2.1.other (b':=Q) n2 2 (.int .i64 (min (max V1 (-1099511627776)) 1099511627776))).other (b':=Q) n2 3 (.int .i64 (min (max V2 (-1099511627776)) 1099511627776))).set 0 (.bool true)).set 1 (.bool SU)).set 2 (.int .i64 (min (max V1 (-1099511627776)) 1099511627776))).set 3 (.int .i64 (min (max V2 (-1099511627776)) 1099511627776))))
   rintro WF ⟨huF,hbF⟩
   obtain ⟨w0,w1,w2,w3⟩:=hbF.c4
   (refine bodyPost_give huF rfl ⟨_,(by simp [results,Tryz.results52,go_sem,w0,w1,w2,w3];rfl),?_⟩)
   rfl
structure SkyL (K:Nat→Prop) (w:World) (a:Option Addr) (n c:Nat) (sa:Option Addr) (sn sc:Nat) (ca:Option Addr) (cn cc:Nat) (s:SkyD):Prop where
 b:Bods K w (.slice a n c) s.bodies
 h:I64 s.home
 st:Tris K w (.slice sa sn sc) s.stations
 ca:Tris K w (.slice ca cn cc) s.catalogs
theorem SkyL.up {K:Nat→Prop} {w w':World} {a:Option Addr} {n c:Nat} {sa:Option Addr} {sn sc:Nat} {ca:Option Addr} {cn cc:Nat} {s:SkyD} (h:SkyL K w a n c sa sn sc ca cn cc s) (hu:Up w w'):SkyL K w' a n c sa sn sc ca cn cc s :=
 ⟨h.b.keeps (hu.keeps K),h.h,h.st.keeps (hu.keeps K),h.ca.keeps (hu.keeps K)⟩
theorem wview_k {k:KndD} {a:Ar4} (hk:KBd k) (ha:ABd a) (w:World):Gives Tryz.prog 52 #[kndV k,.agg #[.int .i64 (a.1),.int .i64 (a.2.1),.int .i64 (a.2.2.1),.int .i64 (a.2.2.2)]] w (.agg (viewA (viewK k a))):=by
 unfold kndV
 cases hs:k.sc with
 | true=>rw [if_pos rfl];exact wview_s hk ha hs w
 | false=>rw [if_neg (by simp)];exact wview_r hk ha hs w
theorem wField_any {K:Nat→Prop} {w:World} {a sa ca:Option Addr} {n c sn sc cn cc:Nat} {s:SkyD} (hL:SkyL K w a n c sa sn sc ca cn cc s) (o:OffD) (p:Int×Int):Gives Tryz.prog 18 #[.agg #[.slice a n c,.int .i64 s.home,.slice sa sn sc,.slice ca cn cc],.agg (offA o),.agg #[.int .i64 (p.1),.int .i64 (p.2)]] w (.bool (fieldV s o p)):=by
 have HC:=hide (fun W (hu:Up w W)=>wcheck_any (hL.up hu).b hL.h (hL.up hu).st (hL.up hu).ca o)
 have HP:=hide (fun W=>wplace_any p.1 p.2 W)
 unfold fieldV
 by_cases he:offE s o=0
 rotate_left
 · rw [decide_eq_false he,Bool.false_and]
   have heb:(offE s o==0)=false:=by simpa using he
   generalize offE s o=e at *
   generalize s.home=home at *
   clear hL he HP
   obtain ⟨p1,p2⟩:=p
   dsimp only
   (unfold Gives;go_enter Tryz.func18,Tryz.ntmps18)
   go_wp2_with fail
   refine forgetW (fun V=>Up w V∧Box V w.heap.size #[.slice a n c,.int .i64 home,.slice sa sn sc,.slice ca cn cc] 29∧Box V (w.heap.size+1) (offA o) 50∧Box V (w.heap.size+1+1) #[.int .i64 (p1),.int .i64 (p2)] 48) ⟨Up.go,Box.go,Box.go,Box.go⟩ ?_
   rintro V ⟨hu,bs,bo,bp⟩
   obtain ⟨s0,s1,s2,s3⟩:=bs.c4
   have ls:=bs.lt
   obtain ⟨f0,f1,f2,f3,f4,f5,f6,f7,f8,f9,f10⟩:=bo.c11
   have lf:=bo.lt
   obtain ⟨g0,g1⟩:=bp.c2
   have lg:=bp.lt
   have HB:=hide hu
   clear hu bs bo bp
   ((first | with_reducible refine wp_region_ext2 (by kernel_rfl) (by kernel_rfl) ?_ | refine wp_region_ext (by kernel_rfl) (by kernel_rfl) ?_);(repeat (go_big_quiet_step ((go_at_call 44;with_reducible exact Gives.inRegion (HC.out _ (HB.out.ext _))))));refine wpQuiet_nil ?_;intro _ hw';obtain ⟨_,hw''⟩:=hw';subst hw'')
   go_wp2
   go_ret
   exact ⟨rfl,(Up.via HB.out)⟩
 have HO:=hide (fun W (hu:Up w W)=>wof_any (hL.up hu).b hL.h (hL.up hu).st (hL.up hu).ca he)
 have hk:=kbd_of he
 rw [decide_eq_true he,Bool.true_and]
 rw [he] at HC
 have hp:nearV 33554432 (p.1,p.2)=true→PBd p:=fun h=>(nearV_iff _ _).1 h
 rw [show nearV 33554432 p=nearV 33554432 (p.1,p.2) from rfl]
 by_cases hN:nearV 33554432 (p.1,p.2)=true
 rotate_left
 · rw [show nearV 33554432 (p.1,p.2)=false by simpa using hN,Bool.false_and]
   rw [show nearV 33554432 (p.1,p.2)=false by simpa using hN] at HP
   generalize s.home=home at *
   clear hL he hk hp hN HO
   obtain ⟨p1,p2⟩:=p
   dsimp only at *
   (unfold Gives;go_enter Tryz.func18,Tryz.ntmps18)
   go_wp2_with fail
   refine forgetW (fun V=>Up w V∧Box V w.heap.size #[.slice a n c,.int .i64 home,.slice sa sn sc,.slice ca cn cc] 29∧Box V (w.heap.size+1) (offA o) 50∧Box V (w.heap.size+1+1) #[.int .i64 (p1),.int .i64 (p2)] 48) ⟨Up.go,Box.go,Box.go,Box.go⟩ ?_
   rintro V ⟨hu,bs,bo,bp⟩
   obtain ⟨s0,s1,s2,s3⟩:=bs.c4
   have ls:=bs.lt
   obtain ⟨f0,f1,f2,f3,f4,f5,f6,f7,f8,f9,f10⟩:=bo.c11
   have lf:=bo.lt
   obtain ⟨g0,g1⟩:=bp.c2
   have lg:=bp.lt
   have HB:=hide hu
   clear hu bs bo bp
   ((first | with_reducible refine wp_region_ext2 (by kernel_rfl) (by kernel_rfl) ?_ | refine wp_region_ext (by kernel_rfl) (by kernel_rfl) ?_);(repeat (go_big_quiet_step ((first | (go_at_call 44;with_reducible exact Gives.inRegion (HC.out _ (HB.out.ext _))) | (go_at_call 49;with_reducible exact Gives.inRegion (HP.out _))))));refine wpQuiet_nil ?_;intro _ hw';obtain ⟨_,hw''⟩:=hw';subst hw'')
   go_wp2
   go_ret
   exact ⟨rfl,(Up.via HB.out)⟩
 have hpb:=hp hN
 rw [hN] at HP
 rw [hN,Bool.true_and]
 generalize kndOf s o=k at *
 unfold kndV at HO
 cases hs:k.sc
 · rw [if_neg (by simp [hs])] at HO
   have HF:=hide (fun W=>wrfield_any hk hpb hs W)
   have hm:=fun (n:Nat) (w:World)=>(meth_r k n w).2.1
   simp only [mField,theName] at hm
   generalize fieldK k p=F at *
   generalize s.home=home at *
   clear hL he hp hN hk hpb hs
   obtain ⟨p1,p2⟩:=p
   dsimp only at *
   (unfold Gives;go_enter Tryz.func18,Tryz.ntmps18)
   go_wp2_with fail
   refine forgetW (fun V=>Up w V∧Box V w.heap.size #[.slice a n c,.int .i64 home,.slice sa sn sc,.slice ca cn cc] 29∧Box V (w.heap.size+1) (offA o) 50∧Box V (w.heap.size+1+1) #[.int .i64 (p1),.int .i64 (p2)] 48) ⟨Up.go,Box.go,Box.go,Box.go⟩ ?_
   rintro V ⟨hu,bs,bo,bp⟩
   obtain ⟨s0,s1,s2,s3⟩:=bs.c4
   have ls:=bs.lt
   obtain ⟨f0,f1,f2,f3,f4,f5,f6,f7,f8,f9,f10⟩:=bo.c11
   have lf:=bo.lt
   obtain ⟨g0,g1⟩:=bp.c2
   have lg:=bp.lt
   have HB:=hide hu
   clear hu bs bo bp
   ((first | with_reducible refine wp_region_ext2 (by kernel_rfl) (by kernel_rfl) ?_ | refine wp_region_ext (by kernel_rfl) (by kernel_rfl) ?_);(repeat (go_big_quiet_step ((first | (go_at_call 44;with_reducible exact Gives.inRegion (HC.out _ (HB.out.ext _))) | (go_at_call 49;with_reducible exact Gives.inRegion (HP.out _)) | (go_at_call 50;with_reducible exact Gives.inRegion (HO.out _ (HB.out.ext _))) | (go_at_call 291;with_reducible exact Gives.inRegion (HF.out _))))));refine wpQuiet_nil ?_;intro _ hw';obtain ⟨_,hw''⟩:=hw';subst hw'')
   go_wp2
   go_ret
   exact ⟨rfl,(Up.via HB.out)⟩
 · rw [if_pos (by simp [hs])] at HO
   have HF:=hide (fun W=>wsfield_any hk hpb hs W)
   have hm:=fun (n:Nat) (w:World)=>(meth_s k n w).2.1
   simp only [mField,theName] at hm
   generalize fieldK k p=F at *
   generalize s.home=home at *
   clear hL he hp hN hk hpb hs
   obtain ⟨p1,p2⟩:=p
   dsimp only at *
   (unfold Gives;go_enter Tryz.func18,Tryz.ntmps18)
   go_wp2_with fail
   refine forgetW (fun V=>Up w V∧Box V w.heap.size #[.slice a n c,.int .i64 home,.slice sa sn sc,.slice ca cn cc] 29∧Box V (w.heap.size+1) (offA o) 50∧Box V (w.heap.size+1+1) #[.int .i64 (p1),.int .i64 (p2)] 48) ⟨Up.go,Box.go,Box.go,Box.go⟩ ?_
   rintro V ⟨hu,bs,bo,bp⟩
   obtain ⟨s0,s1,s2,s3⟩:=bs.c4
   have ls:=bs.lt
   obtain ⟨f0,f1,f2,f3,f4,f5,f6,f7,f8,f9,f10⟩:=bo.c11
   have lf:=bo.lt
   obtain ⟨g0,g1⟩:=bp.c2
   have lg:=bp.lt
   have HB:=hide hu
   clear hu bs bo bp
   ((first | with_reducible refine wp_region_ext2 (by kernel_rfl) (by kernel_rfl) ?_ | refine wp_region_ext (by kernel_rfl) (by kernel_rfl) ?_);(repeat (go_big_quiet_step ((first | (go_at_call 44;with_reducible exact Gives.inRegion (HC.out _ (HB.out.ext _))) | (go_at_call 49;with_reducible exact Gives.inRegion (HP.out _)) | (go_at_call 50;with_reducible exact Gives.inRegion (HO.out _ (HB.out.ext _))) | (go_at_call 297;with_reducible exact Gives.inRegion (HF.out _))))));refine wpQuiet_nil ?_;intro _ hw';obtain ⟨_,hw''⟩:=hw';subst hw'')
   go_wp2
   go_ret
   exact ⟨rfl,(Up.via HB.out)⟩
end Go.Proofs.YteafglginnonnaaGreat
