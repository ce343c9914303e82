/- Several texts in one. -/
import Derived.Test.YteafglginnonnaaGreatSkyR
/- Which skies are valid: the reference's. Conditions: what lies in memory. -/
set_option linter.unusedVariables false
set_option linter.unusedSimpArgs false
namespace Go.Proofs.YteafglginnonnaaGreat
open Go.RowKit Go.Shelf
set_option maxRecDepth 100000 in
set_option maxHeartbeats 4000000 in
theorem scheck_any {K:Nat→Prop} {w:World} {a sa ca:Option Addr} {n c sn sc cn cc:Nat} {s:SkyD} (hb:Bods K w (.slice a n c) s.bodies) (hh:I64 s.home) (hs:Tris K w (.slice sa sn sc) s.stations) (hc:Tris K w (.slice ca cn cc) s.catalogs) :
 Gives Tryz.prog 103 #[.agg #[.slice a n c,.int .i64 s.home,.slice sa sn sc,.slice ca cn cc]] w (.int .i64 (skyE s)):=by
 have HC:=hide (fun W (hu:Up w W)=>sworld_any (hb.keeps (hu.keeps K)) hh)
 have hsn:=(Tris.at hs).1
 have hcn:=(Tris.at hc).1
 have hsm:=(Tris.at hs).2.1
 have hcm:=(Tris.at hc).2.1
 have HS:=hide hs
 have HT:=hide hc
 generalize hH:s.home=home at *
 by_cases hw:worldE s.bodies home=0
 rotate_left
 · have hE:skyE s=worldE s.bodies home:=by unfold skyE;rw [hH,if_neg hw]
   rw [hE]
   have hwb:(worldE s.bodies home != 0)=true:=by simp [hw]
   generalize worldE s.bodies home=e at *
   clear hb hh hs hc hE hsn hcn hw
   (unfold Gives;go_enter Tryz.func103,Tryz.ntmps103)
   go_wp2_with (go_at_call 143;refine (HC.out _ (by repeat (first|with_reducible (first|exact Up.refl _|apply Up.plus)|apply Up.ext|apply Up.alloc|apply Up.drew|refine Up.setCell ?_ (by simp;try omega) _))).mono ?_;intro _)
   go_ret
   exact ⟨rfl,(by repeat (first|with_reducible (first|exact Up.refl _|apply Up.plus)|apply Up.ext|apply Up.alloc|apply Up.drew|refine Up.setCell ?_ (by simp;try omega) _))⟩
 · rw [hw] at HC
   by_cases h16:16<sn
   · have hE:skyE s=8:=by unfold skyE;rw [hH,if_pos hw,if_pos (by omega)]
     rw [hE]
     have hb16:decide ((16:Int)<sn)=true:=by simp;omega
     have hb16n:decide (16<sn)=true:=by simp;omega
     clear hb hh hs hc hE hsn hcn hw HS HT
     (unfold Gives;go_enter Tryz.func103,Tryz.ntmps103)
     go_wp2_with (go_at_call 143;refine (HC.out _ (by repeat (first|with_reducible (first|exact Up.refl _|apply Up.plus)|apply Up.ext|apply Up.alloc|apply Up.drew|refine Up.setCell ?_ (by simp;try omega) _))).mono ?_;intro _)
     go_ret
     exact ⟨rfl,(by repeat (first|with_reducible (first|exact Up.refl _|apply Up.plus)|apply Up.ext|apply Up.alloc|apply Up.drew|refine Up.setCell ?_ (by simp;try omega) _))⟩
   · have hE:skyE s=if stationsE 0 s.stations=0 then (if 8<s.catalogs.length then 8 else catalogsE 0 s.catalogs) else stationsE 0 s.stations:=by unfold skyE;rw [hH,if_pos hw,if_neg (by omega)]
     have HE:=hide hE
     have HN:=hide (And.intro hsn hcn)
     have hb16:decide ((16:Int)<sn)=false:=by simp;omega
     have hb16n:decide (16<sn)=false:=by simp;omega
     clear hb hh hs hc hE hsn hcn hw
     (unfold Gives;go_enter Tryz.func103,Tryz.ntmps103)
     go_wp2_with (go_at_call 143;refine (HC.out _ (by repeat (first|with_reducible (first|exact Up.refl _|apply Up.plus)|apply Up.ext|apply Up.alloc|apply Up.drew|refine Up.setCell ?_ (by simp;try omega) _))).mono ?_;intro _)
     refine forgetW (fun V=>Up w V∧Box V w.heap.size #[.slice a n c,.int .i64 home,.slice sa sn sc,.slice ca cn cc] 29) ⟨(by repeat (first|with_reducible (first|exact Up.refl _|apply Up.plus)|apply Up.ext|apply Up.alloc|apply Up.drew|refine Up.setCell ?_ (by simp;try omega) _)),(by repeat (first|exact Box.mk rfl|(refine Box.mk ?_;simp;done)|apply Box.ext|apply Box.drew|apply Box.alloc|apply Box.two1|refine Box.other ?_ (by omega) _ _))⟩ ?_
     rintro V0 ⟨hu0,bx⟩
     have H0:=hide (show (Up w V0∧Box V0 w.heap.size #[.slice a n c,.int .i64 home,.slice sa sn sc,.slice ca cn cc] 29)∧stationsE 0 s.stations=stationsE 0 (s.stations.drop 0) from ⟨⟨hu0,bx⟩,rfl⟩)
     clear hu0 bx HC
     go_loopw [4,5] (fun s4 s22 wr=>∃ (k:Nat) (last:Int),s4=.int .i64 last∧s22=.int .i64 k∧k≤sn∧Hid ((Up w wr∧Box wr w.heap.size #[.slice a n c,.int .i64 home,.slice sa sn sc,.slice ca cn cc] 29)∧stationsE 0 s.stations=stationsE last (s.stations.drop k))) (fun _ q _=>sn - (intOf q).toNat)
     case atStart=>exact ⟨0,0,by go_num,by go_num,by omega,H0⟩
     case round =>
      obtain ⟨k,last,rfl,rfl,hk,hJ⟩:=hrel
      clear H0
      have xs2:=hJ.out.1.2.cell 2 rfl
      have lxs:=hJ.out.1.2.lt
      by_cases hlt:k<sn
      · have hkb:decide ((k:Int)<sn)=true:=by simp;omega
        have hkn:decide (k<sn)=true:=by simp;omega
        obtain ⟨b0,o0,p,ea,_,hb0,hp,hI,d0,d1,d2⟩:=(Tris.at (HS.out.keeps (hJ.out.1.1.keeps K))).2.2 k hlt
        subst ea
        have HP:=hide (st_at hp last)
        have HI:=hide hI
        clear hp hI
        obtain ⟨p0,p1,p2⟩:=p
        dsimp only at d0 d1 d2 HP
        by_cases h1:p0≤last
        · have h1b:decide (p0≤last)=true:=by simpa using h1
          have hR:=HP.out
          rw [if_pos h1] at hR
          have HR:=hide hR
          clear hR h1 HP
          go_wp2
          go_ret
          refine ⟨ret_int ?_,(by repeat (first|with_reducible exact hJ.out.1.1|with_reducible exact Up.refl _|apply Up.ext|apply Up.alloc|apply Up.drew|(refine Up.setCell ?_ (by simp [World.setCell];try omega) _)))⟩
          have:=hJ.out.2
          rw [HR.out] at this
          rw [HE.out,if_neg (by omega),this]
        · have h1b:decide (p0≤last)=false:=by simpa using h1
          have HB1:=hide (fun W=>sbetween_any p1 (-1048576) 1048576 W)
          have HB2:=hide (fun W=>sbetween_any p2 (-1048576) 1048576 W)
          have hR:=HP.out
          unfold nearV at hR
          dsimp only at hR
          rw [if_neg h1] at hR
          generalize withinB p1 (-1048576) 1048576=A at *
          generalize withinB p2 (-1048576) 1048576=B at *
          have HR:=hide hR
          clear hR h1 HP
          cases A
          · go_wp2_with fail
            go_at_call 126
            refine (HB1.out _).mono ?_
            intro pq
            go_wp2
            go_ret
            refine ⟨ret_int ?_,(by repeat (first|with_reducible exact hJ.out.1.1|with_reducible exact Up.refl _|apply Up.ext|apply Up.alloc|apply Up.drew|(refine Up.setCell ?_ (by simp [World.setCell];try omega) _)))⟩
            have:=hJ.out.2
            rw [HR.out,Bool.false_and,if_pos rfl] at this
            rw [HE.out,if_neg (by omega),this]
          · cases B
            · go_wp2_with fail
              go_at_call 126
              refine (HB1.out _).mono ?_
              intro pq
              go_wp2_with fail
              go_at_call 126
              refine (HB2.out _).mono ?_
              intro pr
              go_wp2
              go_ret
              refine ⟨ret_int ?_,(by repeat (first|with_reducible exact hJ.out.1.1|with_reducible exact Up.refl _|apply Up.ext|apply Up.alloc|apply Up.drew|(refine Up.setCell ?_ (by simp [World.setCell];try omega) _)))⟩
              have:=hJ.out.2
              rw [HR.out,Bool.true_and,if_pos rfl] at this
              rw [HE.out,if_neg (by omega),this]
            · go_wp2_with fail
              go_at_call 126
              refine (HB1.out _).mono ?_
              intro pq
              go_wp2_with fail
              go_at_call 126
              refine (HB2.out _).mono ?_
              intro pr
              go_wp2
              go_roundw
              case rel=>exact ⟨k+1,p0,by go_num,by go_num,by omega,hide ⟨⟨(by repeat (first|with_reducible exact hJ.out.1.1|with_reducible exact Up.refl _|apply Up.ext|apply Up.alloc|apply Up.drew|(refine Up.setCell ?_ (by simp [World.setCell];try omega) _))),(by repeat (first|with_reducible exact hJ.out.1.2|apply Box.ext|apply Box.drew|apply Box.alloc|(refine Box.other ?_ (by simp;try omega) _ _)))⟩,by rw [hJ.out.2,HR.out,Bool.true_and,if_neg (by simp)]⟩⟩
              case measure=>simp [intOf];omega
      · have hkb:decide ((k:Int)<sn)=false:=by simp;omega
        have hkn:decide (k<sn)=false:=by simp;omega
        have hst:stationsE 0 s.stations=0:=by
         rw [hJ.out.2,List.drop_eq_nil_of_le (by have:=HN.out.1;omega)]
         rfl
        have hE:=HE.out
        rw [if_pos hst] at hE
        have x0:=hJ.out.1.2.cell 3 rfl
        have lx:=hJ.out.1.2.lt
        by_cases h8:8<cn
        · have h8b:decide ((8:Int)<cn)=true:=by simp;omega
          have h8n:decide (8<cn)=true:=by simp;omega
          rw [if_pos (by have:=HN.out.2;omega)] at hE
          have HE2:=hide hE
          clear hE hst h8
          go_wp2
          go_ret
          exact ⟨ret_int (by rw [HE2.out]),(by repeat (first|with_reducible exact hJ.out.1.1|with_reducible exact Up.refl _|apply Up.ext|apply Up.alloc|apply Up.drew|(refine Up.setCell ?_ (by simp [World.setCell];try omega) _)))⟩
        · have h8b:decide ((8:Int)<cn)=false:=by simp;omega
          have h8n:decide (8<cn)=false:=by simp;omega
          rw [if_neg (by have:=HN.out.2;omega)] at hE
          have HE2:=hide hE
          have HU:=hide hJ.out.1.1
          have HB:=hide hJ.out.1.2
          clear hE hst h8 hJ HE HS
          go_wp2
          refine forgetW (fun V=>Up w V∧Box V w.heap.size #[.slice a n c,.int .i64 home,.slice sa sn sc,.slice ca cn cc] 29) ⟨(by repeat (first|with_reducible exact HU.out|with_reducible exact Up.refl _|apply Up.ext|apply Up.alloc|apply Up.drew|(refine Up.setCell ?_ (by simp [World.setCell];try omega) _))),(by repeat (first|with_reducible exact HB.out|apply Box.ext|apply Box.drew|apply Box.alloc|(refine Box.other ?_ (by simp;try omega) _ _)))⟩ ?_
          rintro V1 ⟨hu1,hb1⟩
          have H1:=hide (show (Up w V1∧Box V1 w.heap.size #[.slice a n c,.int .i64 home,.slice sa sn sc,.slice ca cn cc] 29)∧catalogsE 0 s.catalogs=catalogsE 0 (s.catalogs.drop 0) from ⟨⟨hu1,hb1⟩,rfl⟩)
          clear hu1 hb1 x0 lx HU HB xs2 lxs
          go_loopw [4,7] (fun s4 s46 w2=>∃ (q:Nat) (last:Int),s4=.int .i64 last∧s46=.int .i64 q∧q≤cn∧Hid ((Up w w2∧Box w2 w.heap.size #[.slice a n c,.int .i64 home,.slice sa sn sc,.slice ca cn cc] 29)∧catalogsE 0 s.catalogs=catalogsE last (s.catalogs.drop q))) (fun _ q _=>cn - (intOf q).toNat)
          case atStart=>exact ⟨0,0,by go_num,by go_num,by omega,H1⟩
          case round =>
           obtain ⟨q,last,rfl,rfl,hq,hJ⟩:=hrel
           clear H1
           have xs3:=hJ.out.1.2.cell 3 rfl
           have lxs:=hJ.out.1.2.lt
           by_cases hlq:q<cn
           · have hqb:decide ((q:Int)<cn)=true:=by simp;omega
             have hqn:decide (q<cn)=true:=by simp;omega
             obtain ⟨b0,o0,p,ea,_,hb0,hp,hI,d0,d1,d2⟩:=(Tris.at (HT.out.keeps (hJ.out.1.1.keeps K))).2.2 q hlq
             subst ea
             have HP:=hide (ca_at hp last)
             have HI:=hide hI
             clear hp hI
             obtain ⟨p0,p1,p2⟩:=p
             dsimp only at d0 d1 d2 HP
             by_cases h1:p0≤last
             · have h1b:decide (p0≤last)=true:=by simpa using h1
               have hR:=HP.out
               rw [if_pos h1] at hR
               have HR:=hide hR
               clear hR h1 HP
               go_wp2
               go_ret
               refine ⟨ret_int ?_,(by repeat (first|with_reducible exact hJ.out.1.1|with_reducible exact Up.refl _|apply Up.ext|apply Up.alloc|apply Up.drew|(refine Up.setCell ?_ (by simp [World.setCell];try omega) _)))⟩
               rw [HE2.out,hJ.out.2,HR.out]
             · have h1b:decide (p0≤last)=false:=by simpa using h1
               by_cases h2:p1 < -500000∨p2<p1∨500000<p2
               · have hR:=HP.out
                 rw [if_neg h1,if_pos h2] at hR
                 have HR:=hide hR
                 clear hR h1 HP
                 have HF:=hide (show Hid (skyE s=2) from hide (by rw [HE2.out,hJ.out.2,HR.out]))
                 by_cases h3:p1 < -500000
                 · have h3b:decide (p1 < -500000)=true:=by simpa using h3
                   clear h2 h3
                   go_wp2
                   go_ret
                   exact ⟨ret_int (by rw [HF.out.out]),(by repeat (first|with_reducible exact hJ.out.1.1|with_reducible exact Up.refl _|apply Up.ext|apply Up.alloc|apply Up.drew|(refine Up.setCell ?_ (by simp [World.setCell];try omega) _)))⟩
                 · have h3b:decide (p1 < -500000)=false:=by simpa using h3
                   by_cases h4:p2<p1
                   · have h4b:decide (p2<p1)=true:=by simpa using h4
                     clear h2 h3 h4
                     go_wp2
                     go_ret
                     exact ⟨ret_int (by rw [HF.out.out]),(by repeat (first|with_reducible exact hJ.out.1.1|with_reducible exact Up.refl _|apply Up.ext|apply Up.alloc|apply Up.drew|(refine Up.setCell ?_ (by simp [World.setCell];try omega) _)))⟩
                   · have h4b:decide (p2<p1)=false:=by simpa using h4
                     have h5b:decide (500000<p2)=true:=by simp;omega
                     clear h2 h3 h4
                     go_wp2
                     go_ret
                     exact ⟨ret_int (by rw [HF.out.out]),(by repeat (first|with_reducible exact hJ.out.1.1|with_reducible exact Up.refl _|apply Up.ext|apply Up.alloc|apply Up.drew|(refine Up.setCell ?_ (by simp [World.setCell];try omega) _)))⟩
               · have hR:=HP.out
                 rw [if_neg h1,if_neg h2] at hR
                 have HR:=hide hR
                 have h3b:decide (p1 < -500000)=false:=by simp;omega
                 have h4b:decide (p2<p1)=false:=by simp;omega
                 have h5b:decide (500000<p2)=false:=by simp;omega
                 clear hR h1 h2 HP
                 go_wp2
                 go_roundw
                 case rel=>exact ⟨q+1,p0,by go_num,by go_num,by omega,hide ⟨⟨(by repeat (first|with_reducible exact hJ.out.1.1|with_reducible exact Up.refl _|apply Up.ext|apply Up.alloc|apply Up.drew|(refine Up.setCell ?_ (by simp [World.setCell];try omega) _))),(by repeat (first|with_reducible exact hJ.out.1.2|apply Box.ext|apply Box.drew|apply Box.alloc|(refine Box.other ?_ (by simp;try omega) _ _)))⟩,by rw [hJ.out.2,HR.out]⟩⟩
                 case measure=>simp [intOf];omega
           · have hqb:decide ((q:Int)<cn)=false:=by simp;omega
             have hqn:decide (q<cn)=false:=by simp;omega
             go_wp2
             go_ret
             refine ⟨ret_int ?_,(by repeat (first|with_reducible exact hJ.out.1.1|with_reducible exact Up.refl _|apply Up.ext|apply Up.alloc|apply Up.drew|(refine Up.setCell ?_ (by simp [World.setCell];try omega) _)))⟩
             rw [HE2.out,hJ.out.2,List.drop_eq_nil_of_le (by have:=HN.out.2;omega)]
             rfl
end Go.Proofs.YteafglginnonnaaGreat
/- A station by its number; where a station is at a tick: the program's. Conditions: what lies in memory. -/
namespace Go.Proofs.YteafglginnonnaaGreat
open Go.RowKit Go.Shelf
theorem firstI_some {α:Type} {F:α→Bool} {l:List α} {x:α} (h:l.find? F=some x):∃ k:Nat,firstI F l=k∧l[k]?=some x:=by
 obtain ⟨hF,i,hi,he,hj⟩:=List.find?_eq_some_iff_getElem.1 h
 refine ⟨i,firstI_found (p:=x) (fun j p hji hp=>?_) (by rw [List.getElem?_eq_getElem hi,he]) hF,by rw [List.getElem?_eq_getElem hi,he]⟩
 have:=hj j hji
 obtain ⟨hl,e⟩:=List.getElem?_eq_some_iff.1 hp
 rw [e] at this
 simpa using this
theorem firstI_no {α:Type} {F:α→Bool} {l:List α} (h:l.find? F=none):firstI F l = -1:=firstI_none fun i p _ hp=>by
 have:=List.find?_eq_none.1 h p (List.mem_of_getElem? hp)
 simpa using this
def stationV (s:SkyD) (id:Int):(Int×Int×Int)×Bool:=match s.stations.find? (fun x=>x.1==id) with
 | some x=>(x,true)
 | none=>((0,0,0),false)
theorem skstation1_any (p:Int×Int×Int) (id:Int) {b:Nat} {w:World} (hb:Box w b #[.int .i64 id] 3):Gives Tryz.prog 173 (#[.agg #[.int .i64 p.1,.int .i64 p.2.1,.int .i64 p.2.2]]++#[.pointer (some ⟨b,0,none⟩)]) w (.bool (p.1==id)):=by
 have c0:=hb.cell 0 rfl
 have lb:=hb.lt
 show Gives Tryz.prog 173 #[.agg #[.int .i64 p.1,.int .i64 p.2.1,.int .i64 p.2.2],.pointer (some ⟨b,0,none⟩)] w (.bool (p.1==id))
 clear hb
 (unfold Gives;go_enter Tryz.func173,Tryz.ntmps173)
 go_wp2
 go_ret
 exact ⟨rfl,(by repeat (first|with_reducible (first|exact Up.refl _|apply Up.plus)|apply Up.ext|apply Up.alloc|apply Up.drew|refine Up.setCell ?_ (by simp;try omega) _))⟩
set_option maxRecDepth 100000 in
set_option maxHeartbeats 2000000 in
theorem skstation_any {K:Nat→Prop} {w:World} {vb:Value} {a sa ca:Option Addr} {n c sn sc cn cc:Nat} {s:SkyD} {home:Int} (hs:Tris K w (.slice sa sn sc) s.stations) (id:Int) :
 Gives Tryz.prog 135 #[.agg #[.slice a n c,.int .i64 home,.slice sa sn sc,.slice ca cn cc],.int .i64 id] w (.tuple #[.agg #[.int .i64 ((stationV s id).1.1),.int .i64 ((stationV s id).1.2.1),.int .i64 ((stationV s id).1.2.2)],.bool (stationV s id).2]):=by
 have HX:=hide (fun W (hu:Up w W) (hb:Box W (w.heap.size+1) #[.int .i64 id] 3)=>ixsta_any 173 #[.pointer (some ⟨w.heap.size+1,0,none⟩)] (enters_of Tryz.func173 (by kernel_rfl) rfl) (fun x=>x.1==id) (hs.keeps (hu.keeps K)) (fun p W2 _ hu2=>skstation1_any p id (hb.up hu2)))
 have HS:=hide hs
 have hm:=(Tris.at hs).2.1
 have hn:=(Tris.at hs).1
 clear hs
 unfold stationV
 cases hf:s.stations.find? (fun x=>x.1==id) with
 | none =>
  rw [firstI_no hf] at HX
  clear hf hn
  dsimp only
  (unfold Gives;go_enter Tryz.func135,Tryz.ntmps135)
  go_wp2_with (go_at_call 132;refine (HX.out _ (by repeat (first|with_reducible (first|exact Up.refl _|apply Up.plus)|apply Up.ext|apply Up.alloc|apply Up.drew|refine Up.setCell ?_ (by simp;try omega) _)) (by repeat (first|exact Box.mk rfl|(refine Box.mk ?_;simp;done)|apply Box.ext|apply Box.drew|apply Box.alloc|apply Box.two1|refine Box.other ?_ (by omega) _ _))).mono ?_;intro _)
  (refine bodyPost_give (by repeat (first|with_reducible (first|exact Up.refl _|apply Up.plus)|apply Up.ext|apply Up.alloc|apply Up.drew|refine Up.setCell ?_ (by simp;try omega) _)) rfl ⟨_,(by simp [results,Tryz.results135,go_sem];rfl),?_⟩)
  rfl
 | some x =>
  obtain ⟨k,hk,hx⟩:=firstI_some hf
  rw [hk] at HX
  have hkn:k<sn:=by have:=(List.getElem?_eq_some_iff.1 hx).1;omega
  have hkb:decide ((k:Int)<0)=false:=by simp
  have HXX:=hide hx
  clear hf hk hn hx
  dsimp only
  obtain ⟨b0,o0,p,ea,_,hb0,hp,hI,d0,d1,d2⟩:=(Tris.at HS.out).2.2 k hkn
  rw [HXX.out] at hp
  cases hp
  subst ea
  have HI:=hide hI
  clear hI
  obtain ⟨x0,x1,x2⟩:=x
  dsimp only at d0 d1 d2 ⊢
  (unfold Gives;go_enter Tryz.func135,Tryz.ntmps135)
  go_wp2_with fail
  go_at_call 132
  refine forgetK (fun V=>Up w V∧Box V w.heap.size #[.slice a n c,.int .i64 home,.slice (some ⟨b0,o0,none⟩) sn sc,.slice ca cn cc] 29∧Box V (w.heap.size+1) #[.int .i64 id] 3∧Box V (w.heap.size+1+1) #[.int .i64 (0),.int .i64 (0),.int .i64 (0)] 112) ⟨(by repeat (first|with_reducible (first|exact Up.refl _|apply Up.plus)|apply Up.ext|apply Up.alloc|apply Up.drew|refine Up.setCell ?_ (by simp;try omega) _)),(by repeat (first|exact Box.mk rfl|(refine Box.mk ?_;simp;done)|apply Box.ext|apply Box.drew|apply Box.alloc|apply Box.two1|refine Box.other ?_ (by omega) _ _)),(by repeat (first|exact Box.mk rfl|(refine Box.mk ?_;simp;done)|apply Box.ext|apply Box.drew|apply Box.alloc|apply Box.two1|refine Box.other ?_ (by omega) _ _)),(by repeat (first|exact Box.mk rfl|(refine Box.mk ?_;simp;done)|apply Box.ext|apply Box.drew|apply Box.alloc|apply Box.two1|refine Box.other ?_ (by omega) _ _))⟩ ?_
  rintro V ⟨hu,bs,bi,bz⟩
  refine (HX.out V hu bi).mono ?_
  intro px
  have up:∀ {q j:Nat} {v:Value},q<w.heap.size→w.cell? ⟨q,j,none⟩=some v→V.cell? ⟨q,j,none⟩=some v:=fun {q j v} hq hv=>(World.cell?_of_block (a:=⟨q,j,none⟩) (hu.below.block q hq)).trans hv
  have e0:=up hb0 d0
  have e1:=up hb0 d1
  have e2:=up hb0 d2
  have x2':=bs.cell 2 rfl
  have lx:=bs.lt
  have lb0:b0<V.heap.size:=Nat.lt_of_lt_of_le hb0 hu.below.size
  have zc0:=bz.cell 0 rfl
  have zc1:=bz.cell 1 rfl
  have zc2:=bz.cell 2 rfl
  have lz:=bz.lt
  have fz0:=bz.frozen 0
  have fz1:=bz.frozen 1
  have fz2:=bz.frozen 2
  have HB:=hide (And.intro hu bz)
  clear d0 d1 d2 hb0 up hu bs bi bz
  go_wp2_with fail
  refine forgetW (fun WF=>Up w WF∧Box WF (w.heap.size+1+1) #[.int .i64 (x0),.int .i64 (x1),.int .i64 (x2)] 112) ⟨(by repeat (first|with_reducible exact HB.out.1|with_reducible apply Up.ext|with_reducible apply Up.alloc|with_reducible apply Up.drew|(with_reducible refine Up.setCell ?_ (by simp only;omega) _))),?_⟩ ?_
  · exact (by (repeat (first|with_reducible apply Box.ext|with_reducible apply Box.alloc|with_reducible apply Box.drew));first|exact ((HB.out.2.set 0 (.int .i64 x0)).set 1 (.int .i64 x1)).set 2 (.int .i64 x2)|exact (((HB.out.2.ext px).set 0 (.int .i64 x0)).set 1 (.int .i64 x1)).set 2 (.int .i64 x2))
  rintro WF ⟨huF,hbF⟩
  have z0:=hbF.cell 0 rfl
  have z1:=hbF.cell 1 rfl
  have z2:=hbF.cell 2 rfl
  (refine bodyPost_give huF rfl ⟨_,(by simp [results,Tryz.results135,go_sem,z0,z1,z2];rfl),?_⟩)
  rfl
end Go.Proofs.YteafglginnonnaaGreat
/- Where a station is at a tick: the program's. Conditions: what lies in memory. -/
namespace Go.Proofs.YteafglginnonnaaGreat
open Go.RowKit Go.Shelf
set_option maxRecDepth 100000 in
set_option maxHeartbeats 4000000 in
theorem skwhere_any {K:Nat→Prop} {w:World} {a sa ca:Option Addr} {n c sn sc cn cc:Nat} {s:SkyD} (hb:Bods K w (.slice a n c) s.bodies) (hh:I64 s.home) (hs:Tris K w (.slice sa sn sc) s.stations) (hc:Tris K w (.slice ca cn cc) s.catalogs) (id t:Int) :
 Gives Tryz.prog 93 #[.agg #[.slice a n c,.int .i64 s.home,.slice sa sn sc,.slice ca cn cc],.int .i64 id,.int .i64 t] w (.tuple #[.agg #[.int .i64 ((whereV s id t).1),.int .i64 ((whereV s id t).2.1)],.bool (whereV s id t).2.2]):=by
 have HC:=hide (fun W (hu:Up w W)=>skcheck_any (hb.keeps (hu.keeps K)) hh (hs.keeps (hu.keeps K)) (hc.keeps (hu.keeps K)))
 have HW:=hide (fun W=>skwithin_any t 0 1073741824 W)
 have HST:=hide (fun W (hu:Up w W)=>skstation_any (vb:=.nilIface) (a:=a) (n:=n) (c:=c) (ca:=ca) (cn:=cn) (cc:=cc) (home:=s.home) (hs.keeps (hu.keeps K)) id)
 unfold whereV
 by_cases he:skyE s=0
 rotate_left
 · rw [if_neg (by simp [he])]
   have heb:(skyE s != 0)=true:=by simp [he]
   generalize skyE s=e at *
   generalize s.home=home at *
   clear hb hs hc he HST
   (unfold Gives;go_enter Tryz.func93,Tryz.ntmps93)
   go_wp2_with (first|(go_at_call 42;refine (HC.out _ (by repeat (first|with_reducible (first|exact Up.refl _|apply Up.plus)|apply Up.ext|apply Up.alloc|apply Up.drew|refine Up.setCell ?_ (by simp;try omega) _))).mono ?_;intro _)|(go_at_call 129;refine (HW.out _).mono ?_;intro _))
   (refine bodyPost_give (by repeat (first|with_reducible (first|exact Up.refl _|apply Up.plus)|apply Up.ext|apply Up.alloc|apply Up.drew|refine Up.setCell ?_ (by simp;try omega) _)) rfl ⟨_,(by simp [results,Tryz.results93,go_sem];rfl),?_⟩)
   rfl
 rw [he] at HC
 by_cases ht:withinB t 0 1073741824=true
 rotate_left
 · rw [if_neg (by simp [ht])]
   rw [show withinB t 0 1073741824=false by simpa using ht] at HW
   generalize s.home=home at *
   clear hb hs hc he HST ht
   (unfold Gives;go_enter Tryz.func93,Tryz.ntmps93)
   go_wp2_with (first|(go_at_call 42;refine (HC.out _ (by repeat (first|with_reducible (first|exact Up.refl _|apply Up.plus)|apply Up.ext|apply Up.alloc|apply Up.drew|refine Up.setCell ?_ (by simp;try omega) _))).mono ?_;intro _)|(go_at_call 129;refine (HW.out _).mono ?_;intro _))
   (refine bodyPost_give (by repeat (first|with_reducible (first|exact Up.refl _|apply Up.plus)|apply Up.ext|apply Up.alloc|apply Up.drew|refine Up.setCell ?_ (by simp;try omega) _)) rfl ⟨_,(by simp [results,Tryz.results93,go_sem];rfl),?_⟩)
   rfl
 rw [if_pos ⟨he,ht⟩]
 rw [ht] at HW
 unfold stationV at HST
 obtain ⟨hw,_⟩:=skyE_zero he
 obtain ⟨_,_,hbe,h0,h1⟩:=worldE_zero hw
 obtain ⟨j,hj⟩:=Int.eq_ofNat_of_zero_le h0
 have hn:=(Bods.at hb).1
 have hjn:j<n:=by omega
 obtain ⟨b0,o0,b,ta,tn,tc,ea,_,hb0,hbk,_,d0,d1,d2,hT⟩:=(Bods.at hb).2.2 j hjn
 subst ea
 have hbm:=hbe b (List.mem_of_getElem? hbk)
 obtain ⟨_,_,htl,_,_⟩:=bodyE_zero hbm
 have htn:=(Vecs.at hT).1
 have ht2:0≤t∧t≤1073741824:=by simpa [withinB] using ht
 have HTR:=hide (fun W (hu:Up w W)=>sktrack_any (t:=t) (hT.keeps (hu.keeps K)) (by omega) (by omega) (by omega))
 have hbd:=(bodyE_zero hbm).2.2.2.2 _ (placeV_mem htl t)
 have hph:s.bodies[s.home.toNat]?=some b:=by rw [hj];exact hbk
 rw [hph]
 have hst:=(skyE_zero he).2.2.1
 cases hf:s.stations.find? (fun x=>x.1==id) with
 | none =>
  rw [hf] at HST
  dsimp only at HST ⊢
  generalize s.home=home at *
  clear hb hs hc he ht hw hbe h0 h1 hj hn hjn hb0 hbk d0 d1 d2 hT hbm htl htn ht2 HTR hbd hph hst hf
  (unfold Gives;go_enter Tryz.func93,Tryz.ntmps93)
  go_wp2_with (first|(go_at_call 42;refine (HC.out _ (by repeat (first|with_reducible (first|exact Up.refl _|apply Up.plus)|apply Up.ext|apply Up.alloc|apply Up.drew|refine Up.setCell ?_ (by simp;try omega) _))).mono ?_;intro _)|(go_at_call 129;refine (HW.out _).mono ?_;intro _)|(go_at_call 135;refine (HST.out _ (by repeat (first|with_reducible (first|exact Up.refl _|apply Up.plus)|apply Up.ext|apply Up.alloc|apply Up.drew|refine Up.setCell ?_ (by simp;try omega) _))).mono ?_;intro _))
  (refine bodyPost_give (by repeat (first|with_reducible (first|exact Up.refl _|apply Up.plus)|apply Up.ext|apply Up.alloc|apply Up.drew|refine Up.setCell ?_ (by simp;try omega) _)) rfl ⟨_,(by simp [results,Tryz.results93,go_sem];rfl),?_⟩)
  rfl
 | some x =>
  rw [hf] at HST
  have hxm:=stationsE_mem _ _ x hst (List.mem_of_find?_eq_some hf)
  obtain ⟨x0,x1,x2⟩:=x
  dsimp only at HST hxm ⊢
  unfold placeV at hbd ⊢
  generalize b.track.getD (t % (b.track.length:Int)).toNat (0,0)=P at *
  obtain ⟨P1,P2⟩:=P
  dsimp only at HTR hbd ⊢
  rw [hj] at HC HST ⊢
  have hjb:decide ((j:Int)<0)=false:=by simp
  have HP:=hide (And.intro d0 (And.intro d1 (And.intro d2 hb0)))
  clear hb hs hc he ht hw hbe h0 h1 hj hn hbk hT hbm htl htn ht2 hph hst hf d0 d1 d2
  (unfold Gives;go_enter Tryz.func93,Tryz.ntmps93)
  go_wp2_with fail
  go_at_call 42
  refine (HC.out _ (by repeat (first|with_reducible (first|exact Up.refl _|apply Up.plus)|apply Up.ext|apply Up.alloc|apply Up.drew|refine Up.setCell ?_ (by simp;try omega) _))).mono ?_
  intro p1
  go_wp2_with fail
  go_at_call 129
  refine (HW.out _).mono ?_
  intro p2
  go_wp2_with fail
  go_at_call 135
  refine forgetK (fun V=>Up w V∧Box V w.heap.size #[.slice (some ⟨b0,o0,none⟩) n c,.int .i64 j,.slice sa sn sc,.slice ca cn cc] 29∧Box V (w.heap.size+1) #[.int .i64 (0),.int .i64 (0)] 48) ⟨(by repeat (first|with_reducible (first|exact Up.refl _|apply Up.plus)|apply Up.ext|apply Up.alloc|apply Up.drew|refine Up.setCell ?_ (by simp;try omega) _)),(by repeat (first|exact Box.mk rfl|(refine Box.mk ?_;simp;done)|apply Box.ext|apply Box.drew|apply Box.alloc|apply Box.two1|refine Box.other ?_ (by omega) _ _)),(by repeat (first|exact Box.mk rfl|(refine Box.mk ?_;simp;done)|apply Box.ext|apply Box.drew|apply Box.alloc|apply Box.two1|refine Box.other ?_ (by omega) _ _))⟩ ?_
  rintro V ⟨hu,bs,bz⟩
  refine (HST.out V hu).mono ?_
  intro p3
  have e2:V.cell? ⟨b0,o0+j*3+2,none⟩=some (.slice ta tn tc):=(World.cell?_of_block (a:=⟨b0,o0+j*3+2,none⟩) (hu.below.block b0 HP.out.2.2.2)).trans HP.out.2.2.1
  have lb0:b0<V.heap.size:=Nat.lt_of_lt_of_le HP.out.2.2.2 hu.below.size
  have x0':=bs.cell 0 rfl
  have x1':=bs.cell 1 rfl
  have lx:=bs.lt
  have HB:=hide (And.intro hu bz)
  clear hu bs bz hb0
  go_wp2_with fail
  go_at_call 136
  obtain ⟨Q8,hQ8⟩:∃ T,V.heap.size+p3.os.size=T:=⟨_,rfl⟩
  try rw [hQ8]
  refine forgetK (fun Y=>Up w Y∧Box Y (w.heap.size+1) #[.int .i64 (0),.int .i64 (0)] 48∧Box Y Q8 #[.int .i64 (x0),.int .i64 (x1),.int .i64 (x2)] 112) ⟨(by repeat (first|with_reducible exact HB.out.1|with_reducible apply Up.ext|with_reducible apply Up.alloc|with_reducible apply Up.drew|(with_reducible refine Up.setCell ?_ (by simp only;omega) _))),(by with_reducible repeat (first|exact HB.out.2|apply Box.ext|apply Box.alloc|apply Box.drew|refine Box.other ?_ (by omega) _ _)),by rw [← hQ8];exact (by repeat (first|exact Box.mk rfl|(refine Box.mk ?_;simp;done)|apply Box.ext|apply Box.drew|apply Box.alloc|apply Box.two1|refine Box.other ?_ (by omega) _ _))⟩ ?_
  rintro Y ⟨hu,bz,b8⟩
  have hQl:w.heap.size+1<Q8:=by have:=HB.out.2.lt;omega
  refine (HTR.out _ hu).mono ?_
  intro p4
  have zc0:=bz.cell 0 rfl
  have zc1:=bz.cell 1 rfl
  have lz:=bz.lt
  have fz0:=bz.frozen 0
  have fz1:=bz.frozen 1
  have yc0:=b8.cell 0 rfl
  have yc1:=b8.cell 1 rfl
  have yc2:=b8.cell 2 rfl
  have ly:=b8.lt
  have HB2:=hide (And.intro hu bz)
  clear HB x0' x1' lx e2 lb0 hu bz b8 hQ8
  go_wp2_with fail
  refine forgetW (fun WF=>Up w WF∧Box WF (w.heap.size+1) #[.int .i64 (P1+x1),.int .i64 (P2+x2)] 48) ⟨(by repeat (first|with_reducible exact HB2.out.1|with_reducible apply Up.ext|with_reducible apply Up.alloc|with_reducible apply Up.drew|(with_reducible refine Up.setCell ?_ (by simp only;omega) _))),?_⟩ ?_
  · exact (by (repeat (first|with_reducible apply Box.ext|with_reducible apply Box.alloc|with_reducible apply Box.drew));first|exact (HB2.out.2.set 0 (.int .i64 (P1+x1))).set 1 (.int .i64 (P2+x2))|exact ((HB2.out.2.ext p4).set 0 (.int .i64 (P1+x1))).set 1 (.int .i64 (P2+x2))|exact (((HB2.out.2.ext p4).alloc _).set 0 (.int .i64 (P1+x1))).set 1 (.int .i64 (P2+x2)))
  rintro WF ⟨huF,hbF⟩
  have z0:=hbF.cell 0 rfl
  have z1:=hbF.cell 1 rfl
  (refine bodyPost_give huF rfl ⟨_,(by simp [results,Tryz.results93,go_sem,z0,z1];rfl),?_⟩)
  rfl
end Go.Proofs.YteafglginnonnaaGreat
/- A station by its number; where a station is: the reference's. Conditions: what lies in memory. -/
namespace Go.Proofs.YteafglginnonnaaGreat
open Go.RowKit Go.Shelf
set_option maxRecDepth 100000 in
set_option maxHeartbeats 2000000 in
theorem sstation_any {K:Nat→Prop} {w:World} {a sa ca:Option Addr} {n c sn sc cn cc:Nat} {l:List (Int×Int×Int)} {home:Int} (hs:Tris K w (.slice sa sn sc) l) (id:Int) :
 Gives Tryz.prog 125 #[.agg #[.slice a n c,.int .i64 home,.slice sa sn sc,.slice ca cn cc],.int .i64 id] w (.int .i64 (firstI (fun x=>x.1==id) l)):=by
 have HS:=hide hs
 have hm:=(Tris.at hs).2.1
 have HN:=hide (Tris.at hs).1
 clear hs
 (unfold Gives;go_enter Tryz.func125,Tryz.ntmps125)
 go_wp2_with fail
 refine forgetW (fun V=>Up w V∧Box V w.heap.size #[.slice a n c,.int .i64 home,.slice sa sn sc,.slice ca cn cc] 29) ⟨(by repeat (first|with_reducible (first|exact Up.refl _|apply Up.plus)|apply Up.ext|apply Up.alloc|apply Up.drew|refine Up.setCell ?_ (by simp;try omega) _)),(by repeat (first|exact Box.mk rfl|(refine Box.mk ?_;simp;done)|apply Box.ext|apply Box.drew|apply Box.alloc|apply Box.two1|refine Box.other ?_ (by omega) _ _))⟩ ?_
 rintro V0 ⟨hu0,b0⟩
 have H0:=hide (show (Up w V0∧Box V0 w.heap.size #[.slice a n c,.int .i64 home,.slice sa sn sc,.slice ca cn cc] 29)∧noneYet (fun x:Int×Int×Int=>x.1==id) l 0 from ⟨⟨hu0,b0⟩,fun i p hi _=>by omega⟩)
 clear hu0 b0
 go_loopw [5] (fun s5 wr=>∃ k:Nat,s5=.int .i64 k∧k≤sn∧Hid ((Up w wr∧Box wr w.heap.size #[.slice a n c,.int .i64 home,.slice sa sn sc,.slice ca cn cc] 29)∧noneYet (fun x:Int×Int×Int=>x.1==id) l k)) (fun q _=>sn - (intOf q).toNat)
 case atStart=>exact ⟨0,by go_num,by omega,H0⟩
 case round =>
  obtain ⟨k,rfl,hk,hJ⟩:=hrel
  clear H0
  have x2:=hJ.out.1.2.cell 2 rfl
  have lx:=hJ.out.1.2.lt
  by_cases hlt:k<sn
  · have hkb:decide ((k:Int)<sn)=true:=by simp;omega
    have hkn:decide (k<sn)=true:=by simp;omega
    obtain ⟨b0,o0,p,ea,_,hb0,hp,hI,d0,d1,d2⟩:=(Tris.at (HS.out.keeps (hJ.out.1.1.keeps K))).2.2 k hlt
    subst ea
    have HP:=hide hp
    clear hp hI
    obtain ⟨p0,p1,p2⟩:=p
    dsimp only at d0 d1 d2
    by_cases h1:p0=id
    · have h1b:(p0==id)=true:=by simpa using h1
      have HF:=hide (show firstI (fun x:Int×Int×Int=>x.1==id) l=k from firstI_found hJ.out.2 HP.out h1b)
      clear h1
      go_wp2
      go_ret
      exact ⟨ret_int (by rw [HF.out]),(by repeat (first|with_reducible exact hJ.out.1.1|with_reducible exact Up.refl _|apply Up.ext|apply Up.alloc|apply Up.drew|(refine Up.setCell ?_ (by simp [World.setCell];try omega) _)))⟩
    · have h1b:(p0==id)=false:=by simpa using h1
      have HF:=hide (hJ.out.2.succ HP.out h1b)
      replace h1:=hide h1
      go_wp2
      go_roundw
      case rel=>exact ⟨k+1,by go_num,by omega,hide ⟨⟨(by repeat (first|with_reducible exact hJ.out.1.1|with_reducible exact Up.refl _|apply Up.ext|apply Up.alloc|apply Up.drew|(refine Up.setCell ?_ (by simp [World.setCell];try omega) _))),(by repeat (first|with_reducible exact hJ.out.1.2|apply Box.ext|apply Box.drew|apply Box.alloc|(refine Box.other ?_ (by simp;try omega) _ _)))⟩,HF.out⟩⟩
      case measure=>simp [intOf];omega
  · have hkb:decide ((k:Int)<sn)=false:=by simp;omega
    have hkn:decide (k<sn)=false:=by simp;omega
    have HF:=hide (show firstI (fun x:Int×Int×Int=>x.1==id) l = -1 from firstI_none (by have:=hJ.out.2;rwa [show k=l.length by have:=HN.out;omega] at this))
    go_wp2
    go_ret
    exact ⟨ret_int (by rw [HF.out]),(by repeat (first|with_reducible exact hJ.out.1.1|with_reducible exact Up.refl _|apply Up.ext|apply Up.alloc|apply Up.drew|(refine Up.setCell ?_ (by simp [World.setCell];try omega) _)))⟩
set_option maxRecDepth 100000 in
set_option maxHeartbeats 2000000 in
theorem swhere0_any {K:Nat→Prop} {w:World} {a sa ca:Option Addr} {n c sn sc cn cc j i:Nat} {bs:List Bod} {l:List (Int×Int×Int)} {t:Int} {b:Bod} {x:Int×Int×Int} (hb:Bods K w (.slice a n c) bs) (hp:bs[j]?=some b) (he:bodyE b=0) (hs:Tris K w (.slice sa sn sc) l) (hx:l[i]?=some x) (t0:0≤t) (t1:t≤9223372036854775807)
 (hxb:(-1048576≤x.2.1∧x.2.1≤1048576) ∧ -1048576≤x.2.2∧x.2.2≤1048576) :
 Gives Tryz.prog 127 #[.agg #[.slice a n c,.int .i64 j,.slice sa sn sc,.slice ca cn cc],.int .i64 i,.int .i64 t] w (.agg #[.int .i64 ((placeV b t).1+x.2.1),.int .i64 ((placeV b t).2+x.2.2)]):=by
 have HA:=hide (fun W (hu:Up w W)=>sat_any (home:=j) (hb.keeps (hu.keeps K)) hp he t0 t1)
 have hbd:=(bodyE_zero he).2.2.2.2 _ (placeV_mem (bodyE_zero he).2.2.1 t)
 have hin:i<sn:=by have:=(Tris.at hs).1;have:=(List.getElem?_eq_some_iff.1 hx).1;omega
 have hsm:=(Tris.at hs).2.1
 obtain ⟨b0,o0,p,ea,_,hb0,hpp,_,d0,d1,d2⟩:=(Tris.at hs).2.2 i hin
 rw [hx] at hpp
 cases hpp
 subst ea
 obtain ⟨x0,x1,x2⟩:=x
 generalize placeV b t=P at *
 obtain ⟨P1,P2⟩:=P
 dsimp only at *
 have HP:=hide (And.intro hb0 (And.intro d1 d2))
 clear hb hp he hs hx d0 d1 d2
 (unfold Gives;go_enter Tryz.func127,Tryz.ntmps127)
 go_wp2_with fail
 go_at_call 152
 refine (HA.out _ (by repeat (first|with_reducible (first|exact Up.refl _|apply Up.plus)|apply Up.ext|apply Up.alloc|apply Up.drew|refine Up.setCell ?_ (by simp;try omega) _))).mono ?_
 intro p1
 go_wp2_with fail
 obtain ⟨Q,hQ⟩:∃ T,w.heap.size+1+1+p1.os.size=T:=⟨_,rfl⟩
 try rw [hQ]
 refine forgetW (fun V=>Up w V∧Box V w.heap.size #[.slice a n c,.int .i64 j,.slice (some ⟨b0,o0,none⟩) sn sc,.slice ca cn cc] 29∧Box V (w.heap.size+1) #[.int .i64 (0),.int .i64 (0)] 48∧Box V Q #[.int .i64 (P1),.int .i64 (P2)] 48) ⟨(by repeat (first|with_reducible (first|exact Up.refl _|apply Up.plus)|apply Up.ext|apply Up.alloc|apply Up.drew|refine Up.setCell ?_ (by simp;try omega) _)),(by repeat (first|exact Box.mk rfl|(refine Box.mk ?_;simp;done)|apply Box.ext|apply Box.drew|apply Box.alloc|apply Box.two1|refine Box.other ?_ (by omega) _ _)),(by repeat (first|exact Box.mk rfl|(refine Box.mk ?_;simp;done)|apply Box.ext|apply Box.drew|apply Box.alloc|apply Box.two1|refine Box.other ?_ (by omega) _ _)),by rw [← hQ];exact (by repeat (first|exact Box.mk rfl|(refine Box.mk ?_;simp;done)|apply Box.ext|apply Box.drew|apply Box.alloc|apply Box.two1|refine Box.other ?_ (by omega) _ _))⟩ ?_
 rintro V ⟨hu,bs',bz,bq⟩
 clear hQ
 have s2:=bs'.cell 2 rfl
 have ls:=bs'.lt
 have z0:=bz.cell 0 rfl
 have z1:=bz.cell 1 rfl
 have lz:=bz.lt
 have fz0:=bz.frozen 0
 have fz1:=bz.frozen 1
 have q0:=bq.cell 0 rfl
 have q1:=bq.cell 1 rfl
 have lq:=bq.lt
 have e1:V.cell? ⟨b0,o0+i*3+1,none⟩=some (.int .i64 x1):=(World.cell?_of_block (a:=⟨b0,o0+i*3+1,none⟩) (hu.below.block b0 HP.out.1)).trans HP.out.2.1
 have e2:V.cell? ⟨b0,o0+i*3+2,none⟩=some (.int .i64 x2):=(World.cell?_of_block (a:=⟨b0,o0+i*3+2,none⟩) (hu.below.block b0 HP.out.1)).trans HP.out.2.2
 have lb0:b0<V.heap.size:=Nat.lt_of_lt_of_le HP.out.1 hu.below.size
 have HB:=hide (And.intro hu bz)
 clear hu bs' bz bq
 ((first | with_reducible refine wp_region_ext_tail2 1 (by kernel_rfl) (by kernel_rfl) ?_ | refine wp_region_ext_tail 1 (by kernel_rfl) (by kernel_rfl) ?_);simp only [List.length_cons,List.length_nil,Nat.reduceAdd,Nat.reduceSub,List.take_succ_cons,List.take_zero,List.drop_succ_cons,List.drop_zero];(repeat (go_big_quiet_step (fail)));refine wpQuiet_nil ?_;intro _ hw';obtain ⟨_,hw''⟩:=hw';subst hw'')
 go_wp2_with fail
 refine forgetW (fun WF=>Up w WF∧Box WF (w.heap.size+1) #[.int .i64 (P1+x1),.int .i64 (P2+x2)] 48) ⟨(by repeat (first|with_reducible exact HB.out.1|with_reducible apply Up.ext|with_reducible apply Up.alloc|with_reducible apply Up.drew|(with_reducible refine Up.setCell ?_ (by simp only;omega) _))),?_⟩ ?_
 · exact (by (repeat (first|with_reducible apply Box.ext|with_reducible apply Box.alloc|with_reducible apply Box.drew));exact (HB.out.2.set 0 (.int .i64 (P1+x1))).set 1 (.int .i64 (P2+x2)))
 rintro WF ⟨huF,hbF⟩
 have w0:=hbF.cell 0 rfl
 have w1:=hbF.cell 1 rfl
 (refine bodyPost_give huF rfl ⟨_,(by simp [results,Tryz.results127,go_sem,w0,w1];rfl),?_⟩)
 rfl
end Go.Proofs.YteafglginnonnaaGreat
/- Where a station is at a tick: the reference's. Conditions: what lies in memory. -/
namespace Go.Proofs.YteafglginnonnaaGreat
open Go.RowKit Go.Shelf
set_option maxRecDepth 100000 in
set_option maxHeartbeats 4000000 in
theorem sWhere_any {K:Nat→Prop} {w:World} {a sa ca:Option Addr} {n c sn sc cn cc:Nat} {s:SkyD} (hb:Bods K w (.slice a n c) s.bodies) (hh:I64 s.home) (hs:Tris K w (.slice sa sn sc) s.stations) (hc:Tris K w (.slice ca cn cc) s.catalogs) (id t:Int) :
 Gives Tryz.prog 80 #[.agg #[.slice a n c,.int .i64 s.home,.slice sa sn sc,.slice ca cn cc],.int .i64 id,.int .i64 t] w (.tuple #[.agg #[.int .i64 ((whereV s id t).1),.int .i64 ((whereV s id t).2.1)],.bool (whereV s id t).2.2]):=by
 have HC:=hide (fun W (hu:Up w W)=>scheck_any (hb.keeps (hu.keeps K)) hh (hs.keeps (hu.keeps K)) (hc.keeps (hu.keeps K)))
 have HW:=hide (fun W=>sbetween_any t 0 1073741824 W)
 have HST:=hide (fun W (hu:Up w W)=>sstation_any (a:=a) (n:=n) (c:=c) (ca:=ca) (cn:=cn) (cc:=cc) (home:=s.home) (hs.keeps (hu.keeps K)) id)
 unfold whereV
 by_cases he:skyE s=0
 rotate_left
 · rw [if_neg (by simp [he])]
   have heb:(skyE s != 0)=true:=by simp [he]
   generalize skyE s=e at *
   generalize s.home=home at *
   clear hb hs hc he HST
   (unfold Gives;go_enter Tryz.func80,Tryz.ntmps80)
   go_wp2_with (go_at_call 103;refine (HC.out _ (by repeat (first|with_reducible (first|exact Up.refl _|apply Up.plus)|apply Up.ext|apply Up.alloc|apply Up.drew|refine Up.setCell ?_ (by simp;try omega) _))).mono ?_;intro _)
   (refine bodyPost_give (by repeat (first|with_reducible (first|exact Up.refl _|apply Up.plus)|apply Up.ext|apply Up.alloc|apply Up.drew|refine Up.setCell ?_ (by simp;try omega) _)) rfl ⟨_,(by simp [results,Tryz.results80,go_sem];rfl),?_⟩)
   rfl
 rw [he] at HC
 have hst:=(skyE_zero he).2.2.1
 cases hf:s.stations.find? (fun x=>x.1==id) with
 | none =>
  rw [firstI_no hf] at HST
  rw [show (if skyE s=0∧withinB t 0 1073741824=true then (match (none:Option (Int×Int×Int)),s.bodies[s.home.toNat]? with | some x,some b=>((placeV b t).1+x.2.1,(placeV b t).2+x.2.2,true) | _,_=>(0,0,false)) else (0,0,false))=(0,0,false) by split <;> rfl]
  generalize s.home=home at *
  clear hb hs hc he hst hf
  (unfold Gives;go_enter Tryz.func80,Tryz.ntmps80)
  go_wp2_with (first|(go_at_call 103;refine (HC.out _ (by repeat (first|with_reducible (first|exact Up.refl _|apply Up.plus)|apply Up.ext|apply Up.alloc|apply Up.drew|refine Up.setCell ?_ (by simp;try omega) _))).mono ?_;intro _)|(go_at_call 125;refine (HST.out _ (by repeat (first|with_reducible (first|exact Up.refl _|apply Up.plus)|apply Up.ext|apply Up.alloc|apply Up.drew|refine Up.setCell ?_ (by simp;try omega) _))).mono ?_;intro _))
  (refine bodyPost_give (by repeat (first|with_reducible (first|exact Up.refl _|apply Up.plus)|apply Up.ext|apply Up.alloc|apply Up.drew|refine Up.setCell ?_ (by simp;try omega) _)) rfl ⟨_,(by simp [results,Tryz.results80,go_sem];rfl),?_⟩)
  rfl
 | some x =>
  obtain ⟨k,hk,hxk⟩:=firstI_some hf
  rw [hk] at HST
  have hkb:decide ((k:Int)<0)=false:=by simp
  by_cases ht:withinB t 0 1073741824=true
  rotate_left
  · rw [if_neg (by simp [ht])]
    rw [show withinB t 0 1073741824=false by simpa using ht] at HW
    generalize s.home=home at *
    clear hb hs hc he hst hf hk hxk ht
    (unfold Gives;go_enter Tryz.func80,Tryz.ntmps80)
    go_wp2_with (first|(go_at_call 103;refine (HC.out _ (by repeat (first|with_reducible (first|exact Up.refl _|apply Up.plus)|apply Up.ext|apply Up.alloc|apply Up.drew|refine Up.setCell ?_ (by simp;try omega) _))).mono ?_;intro _)|(go_at_call 125;refine (HST.out _ (by repeat (first|with_reducible (first|exact Up.refl _|apply Up.plus)|apply Up.ext|apply Up.alloc|apply Up.drew|refine Up.setCell ?_ (by simp;try omega) _))).mono ?_;intro _)|(go_at_call 126;refine (HW.out _).mono ?_;intro _))
    (refine bodyPost_give (by repeat (first|with_reducible (first|exact Up.refl _|apply Up.plus)|apply Up.ext|apply Up.alloc|apply Up.drew|refine Up.setCell ?_ (by simp;try omega) _)) rfl ⟨_,(by simp [results,Tryz.results80,go_sem];rfl),?_⟩)
    rfl
  rw [if_pos ⟨he,ht⟩]
  rw [ht] at HW
  obtain ⟨hw,_⟩:=skyE_zero he
  obtain ⟨_,_,hbe,h0,h1⟩:=worldE_zero hw
  obtain ⟨j,hj⟩:=Int.eq_ofNat_of_zero_le h0
  have hjn:j<s.bodies.length:=by omega
  have hph:s.bodies[s.home.toNat]?=some s.bodies[j]:=by rw [hj];exact List.getElem?_eq_getElem hjn
  have ht2:0≤t∧t≤1073741824:=by simpa [withinB] using ht
  have hxm:=stationsE_mem _ _ x hst (List.mem_of_find?_eq_some hf)
  have HWH:=hide (fun W (hu:Up w W)=>swhere0_any (t:=t) (ca:=ca) (cn:=cn) (cc:=cc) (hb.keeps (hu.keeps K)) (List.getElem?_eq_getElem hjn) (hbe _ (List.getElem_mem hjn)) (hs.keeps (hu.keeps K)) hxk (by omega) (by omega) hxm)
  rw [hph]
  dsimp only
  rw [hj] at HC HST ⊢
  generalize (placeV s.bodies[j] t).1+x.2.1=X at *
  generalize (placeV s.bodies[j] t).2+x.2.2=Y at *
  clear hb hs hc he hst hf hk hxk ht hw hbe h0 h1 hj hph ht2 hxm hh
  (unfold Gives;go_enter Tryz.func80,Tryz.ntmps80)
  go_wp2_with (first|(go_at_call 103;refine (HC.out _ (by repeat (first|with_reducible (first|exact Up.refl _|apply Up.plus)|apply Up.ext|apply Up.alloc|apply Up.drew|refine Up.setCell ?_ (by simp;try omega) _))).mono ?_;intro _)|(go_at_call 125;refine (HST.out _ (by repeat (first|with_reducible (first|exact Up.refl _|apply Up.plus)|apply Up.ext|apply Up.alloc|apply Up.drew|refine Up.setCell ?_ (by simp;try omega) _))).mono ?_;intro _)|(go_at_call 126;refine (HW.out _).mono ?_;intro _))
  refine forgetW (fun V=>Up w V∧Box V w.heap.size #[.slice a n c,.int .i64 j,.slice sa sn sc,.slice ca cn cc] 29∧Box V (w.heap.size+1) #[.int .i64 (0),.int .i64 (0)] 48) ⟨(by repeat (first|with_reducible (first|exact Up.refl _|apply Up.plus)|apply Up.ext|apply Up.alloc|apply Up.drew|refine Up.setCell ?_ (by simp;try omega) _)),(by repeat (first|exact Box.mk rfl|(refine Box.mk ?_;simp;done)|apply Box.ext|apply Box.drew|apply Box.alloc|apply Box.two1|refine Box.other ?_ (by omega) _ _)),(by repeat (first|exact Box.mk rfl|(refine Box.mk ?_;simp;done)|apply Box.ext|apply Box.drew|apply Box.alloc|apply Box.two1|refine Box.other ?_ (by omega) _ _))⟩ ?_
  rintro V ⟨hu,bs',bz⟩
  have s0:=bs'.cell 0 rfl
  have s1:=bs'.cell 1 rfl
  have s2:=bs'.cell 2 rfl
  have s3:=bs'.cell 3 rfl
  have ls:=bs'.lt
  have z0:=bz.cell 0 rfl
  have z1:=bz.cell 1 rfl
  have lz:=bz.lt
  have fz0:=bz.frozen 0
  have fz1:=bz.frozen 1
  have HB:=hide (And.intro hu bz)
  clear hu bs' bz
  ((first | with_reducible refine wp_region_ext_tail2 2 (by kernel_rfl) (by kernel_rfl) ?_ | refine wp_region_ext_tail 2 (by kernel_rfl) (by kernel_rfl) ?_);simp only [List.length_cons,List.length_nil,Nat.reduceAdd,Nat.reduceSub,List.take_succ_cons,List.take_zero,List.drop_succ_cons,List.drop_zero];(repeat (go_big_quiet_step ((first | (go_at_call 125;with_reducible exact Gives.inRegion (HST.out _ (HB.out.1.ext _))) | (go_at_call 127;with_reducible exact Gives.inRegion (HWH.out _ (HB.out.1.ext _)))))));refine wpQuiet_nil ?_;intro _ hw';obtain ⟨_,hw''⟩:=hw';subst hw'')
  go_wp2_with fail
  refine forgetW (fun WF=>Up w WF∧Box WF (w.heap.size+1) #[.int .i64 (X),.int .i64 (Y)] 48) ⟨(by repeat (first|with_reducible exact HB.out.1|with_reducible apply Up.ext|with_reducible apply Up.alloc|with_reducible apply Up.drew|(with_reducible refine Up.setCell ?_ (by simp only;omega) _))),?_⟩ ?_
  · exact (by (repeat (first|with_reducible apply Box.ext|with_reducible apply Box.alloc|with_reducible apply Box.drew));exact (HB.out.2.set 0 (.int .i64 X)).set 1 (.int .i64 Y))
  rintro WF ⟨huF,hbF⟩
  have w0:=hbF.cell 0 rfl
  have w1:=hbF.cell 1 rfl
  (refine bodyPost_give huF rfl ⟨_,(by simp [results,Tryz.results80,go_sem,w0,w1];rfl),?_⟩)
  rfl
end Go.Proofs.YteafglginnonnaaGreat
