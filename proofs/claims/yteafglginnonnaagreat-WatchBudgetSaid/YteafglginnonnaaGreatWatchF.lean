/- Several texts in one. -/
import Derived.Test.YteafglginnonnaaGreatSkyU
import Derived.Test.YteafglginnonnaaGreatSkyR
/- Package watch: which offers are valid. Conditions: what lies in memory. -/
set_option linter.unusedVariables false
set_option linter.unusedSimpArgs false
namespace Go.Proofs.YteafglginnonnaaGreat
open Go.RowKit Go.Shelf
theorem wwithin_any (n lo hi:Int) (w:World):Gives Tryz.prog 45 #[.int .i64 n,.int .i64 lo,.int .i64 hi] w (.bool (withinB n lo hi)):=by
 unfold withinB
 (unfold Gives;go_enter Tryz.func45,Tryz.ntmps45)
 go_wp2
 all_goals (go_ret;refine ⟨?_,(by repeat (first|with_reducible (first|exact Up.refl _|apply Up.plus)|apply Up.ext|apply Up.alloc|apply Up.drew|refine Up.setCell ?_ (by simp;try omega) _))⟩)
 all_goals (go_light;first|(simp_all [withinB];done)|(simp_all [withinB];omega)|(simp_all [withinB];repeat' split;all_goals (first|(simp_all;done)|omega|(simp_all;omega))))
abbrev offA (o:OffD):Array Value:=#[.int .i64 o.kind,.int .i64 o.station,.int .i64 o.catalog,.int .i64 o.tick,.int .i64 o.dx,.int .i64 o.dy,.int .i64 o.err,.int .i64 o.far,.int .i64 o.wide,.int .i64 o.cost,.bool o.sure]
def offF (e:Int) (k1 k2 T1 S1 T2 T3 T4 C1 T5 T6 Z T7:Bool):Int :=
 if e≠0 then e else if (k1 || k2)=false then 4 else if T1=false then 2 else if S1=false then 7 else if T2=false then 2 else if T3=false then 2 else if T4=false then 2
 else if k2=true then 0 else if C1=false then 7 else if T5=false then 2 else if T6=false then 2 else if Z=true then 2 else if T7=false then 2 else 0
theorem offF_eq (s:SkyD) (o:OffD):offF (skyE s) (o.kind==1) (o.kind==2) (withinB o.tick 0 1073741824) (s.stations.any fun x=>x.1==o.station) (withinB o.err 0 500000) (withinB o.far 1 134217728) (withinB o.cost 0 1000)
 (s.catalogs.any fun x=>x.1==o.catalog) (withinB o.dx (-4096) 4096) (withinB o.dy (-4096) 4096) (o.dx==0&&o.dy==0) (withinB o.wide 0 1000000)=offE s o:=by
 unfold offE offE0 offF
 by_cases he:skyE s=0
 · rw [if_neg (by simp [he]),if_pos he]
   generalize withinB o.tick 0 1073741824=T1
   generalize (s.stations.any fun x=>x.1==o.station)=S1
   generalize withinB o.err 0 500000=T2
   generalize withinB o.far 1 134217728=T3
   generalize withinB o.cost 0 1000=T4
   generalize (s.catalogs.any fun x=>x.1==o.catalog)=C1
   generalize withinB o.dx (-4096) 4096=T5
   generalize withinB o.dy (-4096) 4096=T6
   generalize (o.dx==0&&o.dy==0)=Z
   generalize withinB o.wide 0 1000000=T7
   have hk:((o.kind==1 || o.kind==2)=false)=(o.kind≠1∧o.kind≠2):=by simp
   have hk2:((o.kind==2)=true)=(o.kind=2):=by simp
   simp only [hk,hk2]
   cases T1 <;> cases S1 <;> cases T2 <;> cases T3 <;> cases T4 <;> cases C1 <;> cases T5 <;> cases T6 <;> cases Z <;> cases T7 <;> simp
 · rw [if_pos he,if_neg he]
theorem wco1_any (p:Int×Int×Int) (o:OffD) {b:Nat} {w:World} (hb:Box w b (offA o) 50):Gives Tryz.prog 87 (#[.agg #[.int .i64 p.1,.int .i64 p.2.1,.int .i64 p.2.2]]++#[.pointer (some ⟨b,0,none⟩)]) w (.bool (p.1==o.station)):=by
 have c0:=hb.cell 1 rfl
 have lb:=hb.lt
 show Gives Tryz.prog 87 #[.agg #[.int .i64 p.1,.int .i64 p.2.1,.int .i64 p.2.2],.pointer (some ⟨b,0,none⟩)] w (.bool (p.1==o.station))
 clear hb
 (unfold Gives;go_enter Tryz.func87,Tryz.ntmps87)
 go_wp2
 go_ret
 exact ⟨rfl,(by repeat (first|with_reducible (first|exact Up.refl _|apply Up.plus)|apply Up.ext|apply Up.alloc|apply Up.drew|refine Up.setCell ?_ (by simp;try omega) _))⟩
theorem wco2_any (p:Int×Int×Int) (o:OffD) {b:Nat} {w:World} (hb:Box w b (offA o) 50):Gives Tryz.prog 89 (#[.agg #[.int .i64 p.1,.int .i64 p.2.1,.int .i64 p.2.2]]++#[.pointer (some ⟨b,0,none⟩)]) w (.bool (p.1==o.catalog)):=by
 have c0:=hb.cell 2 rfl
 have lb:=hb.lt
 show Gives Tryz.prog 89 #[.agg #[.int .i64 p.1,.int .i64 p.2.1,.int .i64 p.2.2],.pointer (some ⟨b,0,none⟩)] w (.bool (p.1==o.catalog))
 clear hb
 (unfold Gives;go_enter Tryz.func89,Tryz.ntmps89)
 go_wp2
 go_ret
 exact ⟨rfl,(by repeat (first|with_reducible (first|exact Up.refl _|apply Up.plus)|apply Up.ext|apply Up.alloc|apply Up.drew|refine Up.setCell ?_ (by simp;try omega) _))⟩
set_option maxRecDepth 100000 in
set_option maxHeartbeats 8000000 in
theorem wcheck_any {K:Nat→Prop} {w:World} {a sa ca:Option Addr} {n c sn sc cn cc:Nat} {s:SkyD} (hb:Bods K w (.slice a n c) s.bodies) (hh:I64 s.home) (hs:Tris K w (.slice sa sn sc) s.stations) (hc:Tris K w (.slice ca cn cc) s.catalogs) (o:OffD) :
 Gives Tryz.prog 44 #[.agg #[.slice a n c,.int .i64 s.home,.slice sa sn sc,.slice ca cn cc],.agg (offA o)] w (.int .i64 (offE s o)):=by
 have HC:=hide (fun W (hu:Up w W)=>skcheck_any (hb.keeps (hu.keeps K)) hh (hs.keeps (hu.keeps K)) (hc.keeps (hu.keeps K)))
 have HS:=hide (fun W (hu:Up w W) (hx:Box W (w.heap.size+1) (offA o) 50)=>anysta_any 87 #[.pointer (some ⟨w.heap.size+1,0,none⟩)] (enters_of Tryz.func87 (by kernel_rfl) rfl) (fun x=>x.1==o.station) (hs.keeps (hu.keeps K)) (fun p W2 _ hu2=>wco1_any p o (hx.up hu2)))
 have HK:=hide (fun W (hu:Up w W) (hx:Box W (w.heap.size+1) (offA o) 50)=>anycat_any 89 #[.pointer (some ⟨w.heap.size+1,0,none⟩)] (enters_of Tryz.func89 (by kernel_rfl) rfl) (fun x=>x.1==o.catalog) (hc.keeps (hu.keeps K)) (fun p W2 _ hu2=>wco2_any p o (hx.up hu2)))
 have HW:=hide (fun n lo hi W=>wwithin_any n lo hi W)
 rw [← offF_eq]
 obtain ⟨kd,st,ct,tk,dx,dy,er,fr,wd,co,su⟩:=o
 dsimp only at HS HK ⊢
 generalize skyE s=e at *
 generalize s.home=home at *
 have HW1:=hide (fun W=>HW.out tk 0 1073741824 W)
 have HW2:=hide (fun W=>HW.out er 0 500000 W)
 have HW3:=hide (fun W=>HW.out fr 1 134217728 W)
 have HW4:=hide (fun W=>HW.out co 0 1000 W)
 have HW5:=hide (fun W=>HW.out dx (-4096) 4096 W)
 have HW6:=hide (fun W=>HW.out dy (-4096) 4096 W)
 have HW7:=hide (fun W=>HW.out wd 0 1000000 W)
 generalize withinB tk 0 1073741824=T1 at HW1 ⊢
 generalize (s.stations.any fun x=>x.1==st)=S1 at HS ⊢
 generalize withinB er 0 500000=T2 at HW2 ⊢
 generalize withinB fr 1 134217728=T3 at HW3 ⊢
 generalize withinB co 0 1000=T4 at HW4 ⊢
 generalize (s.catalogs.any fun x=>x.1==ct)=C1 at HK ⊢
 generalize withinB dx (-4096) 4096=T5 at HW5 ⊢
 generalize withinB dy (-4096) 4096=T6 at HW6 ⊢
 generalize withinB wd 0 1000000=T7 at HW7 ⊢
 clear hb hs hc HW
 (unfold Gives;go_enter Tryz.func44,Tryz.ntmps44)
 go_wp2_with fail
 go_at_call 42
 refine forgetK (fun V=>Up w V∧Box V w.heap.size #[.slice a n c,.int .i64 home,.slice sa sn sc,.slice ca cn cc] 29∧Box V (w.heap.size+1) #[.int .i64 kd,.int .i64 st,.int .i64 ct,.int .i64 tk,.int .i64 dx,.int .i64 dy,.int .i64 er,.int .i64 fr,.int .i64 wd,.int .i64 co,.bool su] 50) ⟨(by repeat (first|with_reducible (first|exact Up.refl _|apply Up.plus)|apply Up.ext|apply Up.alloc|apply Up.drew|refine Up.setCell ?_ (by simp;try omega) _)),(by repeat (first|exact Box.mk rfl|(refine Box.mk ?_;simp;done)|apply Box.ext|apply Box.drew|apply Box.alloc|apply Box.two1|refine Box.other ?_ (by omega) _ _)),(by repeat (first|exact Box.mk rfl|(refine Box.mk ?_;simp;done)|apply Box.ext|apply Box.drew|apply Box.alloc|apply Box.two1|refine Box.other ?_ (by omega) _ _))⟩ ?_
 rintro V1 ⟨hu1,bx1,by1⟩
 have HB1:=hide (And.intro hu1 (And.intro bx1 by1))
 refine (HC.out _ hu1).mono ?_
 intro p1
 have x0:=bx1.cell 0 rfl
 have x1:=bx1.cell 1 rfl
 have x2:=bx1.cell 2 rfl
 have x3:=bx1.cell 3 rfl
 have y0:=by1.cell 0 rfl
 have y1:=by1.cell 1 rfl
 have y2:=by1.cell 2 rfl
 have y3:=by1.cell 3 rfl
 have y4:=by1.cell 4 rfl
 have y5:=by1.cell 5 rfl
 have y6:=by1.cell 6 rfl
 have y7:=by1.cell 7 rfl
 have y8:=by1.cell 8 rfl
 have y9:=by1.cell 9 rfl
 have y10:=by1.cell 10 rfl
 have lx:=bx1.lt
 have ly:=by1.lt
 clear hu1 bx1 by1
 by_cases he:e=0
 rotate_left
 · have heb:(e != 0)=true:=by simp [he]
   replace he:=hide he
   go_wp2
   go_ret
   exact ⟨ret_int (by simp [offF,he.out]),(by with_reducible repeat (first|exact HB1.out.1|exact Up.refl _|apply Up.ext|apply Up.alloc|apply Up.drew|refine Up.setCell ?_ (by simp only;omega) _))⟩
 subst he
 by_cases hk:kd≠1∧kd≠2
 · have h1:(kd==1)=false:=by simp [hk.1]
   have h2:(kd==2)=false:=by simp [hk.2]
   have h1n:(kd != 1)=true:=by simp [hk.1]
   have h2n:(kd != 2)=true:=by simp [hk.2]
   clear hk
   go_wp2
   go_ret
   exact ⟨ret_int (by simp [offF,h1,h2]),(by with_reducible repeat (first|exact HB1.out.1|exact Up.refl _|apply Up.ext|apply Up.alloc|apply Up.drew|refine Up.setCell ?_ (by simp only;omega) _))⟩
 rcases (show kd=1∨kd=2 by omega) with rfl | rfl
 · go_wp2_with fail
   go_at_call 45
   refine forgetK (fun V=>Up w V∧Box V w.heap.size #[.slice a n c,.int .i64 home,.slice sa sn sc,.slice ca cn cc] 29∧Box V (w.heap.size+1) #[.int .i64 1,.int .i64 st,.int .i64 ct,.int .i64 tk,.int .i64 dx,.int .i64 dy,.int .i64 er,.int .i64 fr,.int .i64 wd,.int .i64 co,.bool su] 50) ⟨(by with_reducible repeat (first|exact HB1.out.1|exact Up.refl _|apply Up.ext|apply Up.alloc|apply Up.drew|refine Up.setCell ?_ (by simp only;omega) _)),(by with_reducible repeat (first|exact HB1.out.2.1|apply Box.ext|apply Box.alloc|apply Box.drew|refine Box.other ?_ (by omega) _ _)),(by with_reducible repeat (first|exact HB1.out.2.2|apply Box.ext|apply Box.alloc|apply Box.drew|refine Box.other ?_ (by omega) _ _))⟩ ?_
   rintro V2 ⟨hu2,bx2,by2⟩
   have HB2:=hide (And.intro hu2 (And.intro bx2 by2))
   clear HB1 x0 y0 x1 y1 x2 y2 x3 y3 y4 y5 y6 y7 y8 y9 y10 lx ly
   refine (HW1.out _).mono ?_
   intro p2
   have x0:=bx2.cell 0 rfl
   have x1:=bx2.cell 1 rfl
   have x2:=bx2.cell 2 rfl
   have x3:=bx2.cell 3 rfl
   have y0:=by2.cell 0 rfl
   have y1:=by2.cell 1 rfl
   have y2:=by2.cell 2 rfl
   have y3:=by2.cell 3 rfl
   have y4:=by2.cell 4 rfl
   have y5:=by2.cell 5 rfl
   have y6:=by2.cell 6 rfl
   have y7:=by2.cell 7 rfl
   have y8:=by2.cell 8 rfl
   have y9:=by2.cell 9 rfl
   have y10:=by2.cell 10 rfl
   have lx:=bx2.lt
   have ly:=by2.lt
   clear hu2 bx2 by2
   cases T1
   · go_wp2
     go_ret
     exact ⟨ret_int (by simp [offF]),(by with_reducible repeat (first|exact HB2.out.1|exact Up.refl _|apply Up.ext|apply Up.alloc|apply Up.drew|refine Up.setCell ?_ (by simp only;omega) _))⟩
   go_wp2_with fail
   go_at_call 86
   refine forgetK (fun V=>Up w V∧Box V w.heap.size #[.slice a n c,.int .i64 home,.slice sa sn sc,.slice ca cn cc] 29∧Box V (w.heap.size+1) #[.int .i64 1,.int .i64 st,.int .i64 ct,.int .i64 tk,.int .i64 dx,.int .i64 dy,.int .i64 er,.int .i64 fr,.int .i64 wd,.int .i64 co,.bool su] 50) ⟨(by with_reducible repeat (first|exact HB2.out.1|exact Up.refl _|apply Up.ext|apply Up.alloc|apply Up.drew|refine Up.setCell ?_ (by simp only;omega) _)),(by with_reducible repeat (first|exact HB2.out.2.1|apply Box.ext|apply Box.alloc|apply Box.drew|refine Box.other ?_ (by omega) _ _)),(by with_reducible repeat (first|exact HB2.out.2.2|apply Box.ext|apply Box.alloc|apply Box.drew|refine Box.other ?_ (by omega) _ _))⟩ ?_
   rintro V3 ⟨hu3,bx3,by3⟩
   have HB3:=hide (And.intro hu3 (And.intro bx3 by3))
   clear HB2 x0 y0 x1 y1 x2 y2 x3 y3 y4 y5 y6 y7 y8 y9 y10 lx ly
   refine (HS.out _ hu3 by3).mono ?_
   intro p3
   have x0:=bx3.cell 0 rfl
   have x1:=bx3.cell 1 rfl
   have x2:=bx3.cell 2 rfl
   have x3:=bx3.cell 3 rfl
   have y0:=by3.cell 0 rfl
   have y1:=by3.cell 1 rfl
   have y2:=by3.cell 2 rfl
   have y3:=by3.cell 3 rfl
   have y4:=by3.cell 4 rfl
   have y5:=by3.cell 5 rfl
   have y6:=by3.cell 6 rfl
   have y7:=by3.cell 7 rfl
   have y8:=by3.cell 8 rfl
   have y9:=by3.cell 9 rfl
   have y10:=by3.cell 10 rfl
   have lx:=bx3.lt
   have ly:=by3.lt
   clear hu3 bx3 by3
   cases S1
   · go_wp2
     go_ret
     exact ⟨ret_int (by simp [offF]),(by with_reducible repeat (first|exact HB3.out.1|exact Up.refl _|apply Up.ext|apply Up.alloc|apply Up.drew|refine Up.setCell ?_ (by simp only;omega) _))⟩
   go_wp2_with fail
   go_at_call 45
   refine forgetK (fun V=>Up w V∧Box V w.heap.size #[.slice a n c,.int .i64 home,.slice sa sn sc,.slice ca cn cc] 29∧Box V (w.heap.size+1) #[.int .i64 1,.int .i64 st,.int .i64 ct,.int .i64 tk,.int .i64 dx,.int .i64 dy,.int .i64 er,.int .i64 fr,.int .i64 wd,.int .i64 co,.bool su] 50) ⟨(by with_reducible repeat (first|exact HB3.out.1|exact Up.refl _|apply Up.ext|apply Up.alloc|apply Up.drew|refine Up.setCell ?_ (by simp only;omega) _)),(by with_reducible repeat (first|exact HB3.out.2.1|apply Box.ext|apply Box.alloc|apply Box.drew|refine Box.other ?_ (by omega) _ _)),(by with_reducible repeat (first|exact HB3.out.2.2|apply Box.ext|apply Box.alloc|apply Box.drew|refine Box.other ?_ (by omega) _ _))⟩ ?_
   rintro V4 ⟨hu4,bx4,by4⟩
   have HB4:=hide (And.intro hu4 (And.intro bx4 by4))
   clear HB3 x0 y0 x1 y1 x2 y2 x3 y3 y4 y5 y6 y7 y8 y9 y10 lx ly
   refine (HW2.out _).mono ?_
   intro p4
   have x0:=bx4.cell 0 rfl
   have x1:=bx4.cell 1 rfl
   have x2:=bx4.cell 2 rfl
   have x3:=bx4.cell 3 rfl
   have y0:=by4.cell 0 rfl
   have y1:=by4.cell 1 rfl
   have y2:=by4.cell 2 rfl
   have y3:=by4.cell 3 rfl
   have y4:=by4.cell 4 rfl
   have y5:=by4.cell 5 rfl
   have y6:=by4.cell 6 rfl
   have y7:=by4.cell 7 rfl
   have y8:=by4.cell 8 rfl
   have y9:=by4.cell 9 rfl
   have y10:=by4.cell 10 rfl
   have lx:=bx4.lt
   have ly:=by4.lt
   clear hu4 bx4 by4
   cases T2
   · go_wp2
     go_ret
     exact ⟨ret_int (by simp [offF]),(by with_reducible repeat (first|exact HB4.out.1|exact Up.refl _|apply Up.ext|apply Up.alloc|apply Up.drew|refine Up.setCell ?_ (by simp only;omega) _))⟩
   go_wp2_with fail
   go_at_call 45
   refine forgetK (fun V=>Up w V∧Box V w.heap.size #[.slice a n c,.int .i64 home,.slice sa sn sc,.slice ca cn cc] 29∧Box V (w.heap.size+1) #[.int .i64 1,.int .i64 st,.int .i64 ct,.int .i64 tk,.int .i64 dx,.int .i64 dy,.int .i64 er,.int .i64 fr,.int .i64 wd,.int .i64 co,.bool su] 50) ⟨(by with_reducible repeat (first|exact HB4.out.1|exact Up.refl _|apply Up.ext|apply Up.alloc|apply Up.drew|refine Up.setCell ?_ (by simp only;omega) _)),(by with_reducible repeat (first|exact HB4.out.2.1|apply Box.ext|apply Box.alloc|apply Box.drew|refine Box.other ?_ (by omega) _ _)),(by with_reducible repeat (first|exact HB4.out.2.2|apply Box.ext|apply Box.alloc|apply Box.drew|refine Box.other ?_ (by omega) _ _))⟩ ?_
   rintro V5 ⟨hu5,bx5,by5⟩
   have HB5:=hide (And.intro hu5 (And.intro bx5 by5))
   clear HB4 x0 y0 x1 y1 x2 y2 x3 y3 y4 y5 y6 y7 y8 y9 y10 lx ly
   refine (HW3.out _).mono ?_
   intro p5
   have x0:=bx5.cell 0 rfl
   have x1:=bx5.cell 1 rfl
   have x2:=bx5.cell 2 rfl
   have x3:=bx5.cell 3 rfl
   have y0:=by5.cell 0 rfl
   have y1:=by5.cell 1 rfl
   have y2:=by5.cell 2 rfl
   have y3:=by5.cell 3 rfl
   have y4:=by5.cell 4 rfl
   have y5:=by5.cell 5 rfl
   have y6:=by5.cell 6 rfl
   have y7:=by5.cell 7 rfl
   have y8:=by5.cell 8 rfl
   have y9:=by5.cell 9 rfl
   have y10:=by5.cell 10 rfl
   have lx:=bx5.lt
   have ly:=by5.lt
   clear hu5 bx5 by5
   cases T3
   · go_wp2
     go_ret
     exact ⟨ret_int (by simp [offF]),(by with_reducible repeat (first|exact HB5.out.1|exact Up.refl _|apply Up.ext|apply Up.alloc|apply Up.drew|refine Up.setCell ?_ (by simp only;omega) _))⟩
   go_wp2_with fail
   go_at_call 45
   refine forgetK (fun V=>Up w V∧Box V w.heap.size #[.slice a n c,.int .i64 home,.slice sa sn sc,.slice ca cn cc] 29∧Box V (w.heap.size+1) #[.int .i64 1,.int .i64 st,.int .i64 ct,.int .i64 tk,.int .i64 dx,.int .i64 dy,.int .i64 er,.int .i64 fr,.int .i64 wd,.int .i64 co,.bool su] 50) ⟨(by with_reducible repeat (first|exact HB5.out.1|exact Up.refl _|apply Up.ext|apply Up.alloc|apply Up.drew|refine Up.setCell ?_ (by simp only;omega) _)),(by with_reducible repeat (first|exact HB5.out.2.1|apply Box.ext|apply Box.alloc|apply Box.drew|refine Box.other ?_ (by omega) _ _)),(by with_reducible repeat (first|exact HB5.out.2.2|apply Box.ext|apply Box.alloc|apply Box.drew|refine Box.other ?_ (by omega) _ _))⟩ ?_
   rintro V6 ⟨hu6,bx6,by6⟩
   have HB6:=hide (And.intro hu6 (And.intro bx6 by6))
   clear HB5 x0 y0 x1 y1 x2 y2 x3 y3 y4 y5 y6 y7 y8 y9 y10 lx ly
   refine (HW4.out _).mono ?_
   intro p6
   have x0:=bx6.cell 0 rfl
   have x1:=bx6.cell 1 rfl
   have x2:=bx6.cell 2 rfl
   have x3:=bx6.cell 3 rfl
   have y0:=by6.cell 0 rfl
   have y1:=by6.cell 1 rfl
   have y2:=by6.cell 2 rfl
   have y3:=by6.cell 3 rfl
   have y4:=by6.cell 4 rfl
   have y5:=by6.cell 5 rfl
   have y6:=by6.cell 6 rfl
   have y7:=by6.cell 7 rfl
   have y8:=by6.cell 8 rfl
   have y9:=by6.cell 9 rfl
   have y10:=by6.cell 10 rfl
   have lx:=bx6.lt
   have ly:=by6.lt
   clear hu6 bx6 by6
   cases T4
   · go_wp2
     go_ret
     exact ⟨ret_int (by simp [offF]),(by with_reducible repeat (first|exact HB6.out.1|exact Up.refl _|apply Up.ext|apply Up.alloc|apply Up.drew|refine Up.setCell ?_ (by simp only;omega) _))⟩
   go_wp2_with fail
   go_at_call 88
   refine forgetK (fun V=>Up w V∧Box V w.heap.size #[.slice a n c,.int .i64 home,.slice sa sn sc,.slice ca cn cc] 29∧Box V (w.heap.size+1) #[.int .i64 1,.int .i64 st,.int .i64 ct,.int .i64 tk,.int .i64 dx,.int .i64 dy,.int .i64 er,.int .i64 fr,.int .i64 wd,.int .i64 co,.bool su] 50) ⟨(by with_reducible repeat (first|exact HB6.out.1|exact Up.refl _|apply Up.ext|apply Up.alloc|apply Up.drew|refine Up.setCell ?_ (by simp only;omega) _)),(by with_reducible repeat (first|exact HB6.out.2.1|apply Box.ext|apply Box.alloc|apply Box.drew|refine Box.other ?_ (by omega) _ _)),(by with_reducible repeat (first|exact HB6.out.2.2|apply Box.ext|apply Box.alloc|apply Box.drew|refine Box.other ?_ (by omega) _ _))⟩ ?_
   rintro V7 ⟨hu7,bx7,by7⟩
   have HB7:=hide (And.intro hu7 (And.intro bx7 by7))
   clear HB6 x0 y0 x1 y1 x2 y2 x3 y3 y4 y5 y6 y7 y8 y9 y10 lx ly
   refine (HK.out _ hu7 by7).mono ?_
   intro p7
   have x0:=bx7.cell 0 rfl
   have x1:=bx7.cell 1 rfl
   have x2:=bx7.cell 2 rfl
   have x3:=bx7.cell 3 rfl
   have y0:=by7.cell 0 rfl
   have y1:=by7.cell 1 rfl
   have y2:=by7.cell 2 rfl
   have y3:=by7.cell 3 rfl
   have y4:=by7.cell 4 rfl
   have y5:=by7.cell 5 rfl
   have y6:=by7.cell 6 rfl
   have y7:=by7.cell 7 rfl
   have y8:=by7.cell 8 rfl
   have y9:=by7.cell 9 rfl
   have y10:=by7.cell 10 rfl
   have lx:=bx7.lt
   have ly:=by7.lt
   clear hu7 bx7 by7
   cases C1
   · go_wp2
     go_ret
     exact ⟨ret_int (by simp [offF]),(by with_reducible repeat (first|exact HB7.out.1|exact Up.refl _|apply Up.ext|apply Up.alloc|apply Up.drew|refine Up.setCell ?_ (by simp only;omega) _))⟩
   go_wp2_with fail
   go_at_call 45
   refine forgetK (fun V=>Up w V∧Box V w.heap.size #[.slice a n c,.int .i64 home,.slice sa sn sc,.slice ca cn cc] 29∧Box V (w.heap.size+1) #[.int .i64 1,.int .i64 st,.int .i64 ct,.int .i64 tk,.int .i64 dx,.int .i64 dy,.int .i64 er,.int .i64 fr,.int .i64 wd,.int .i64 co,.bool su] 50) ⟨(by with_reducible repeat (first|exact HB7.out.1|exact Up.refl _|apply Up.ext|apply Up.alloc|apply Up.drew|refine Up.setCell ?_ (by simp only;omega) _)),(by with_reducible repeat (first|exact HB7.out.2.1|apply Box.ext|apply Box.alloc|apply Box.drew|refine Box.other ?_ (by omega) _ _)),(by with_reducible repeat (first|exact HB7.out.2.2|apply Box.ext|apply Box.alloc|apply Box.drew|refine Box.other ?_ (by omega) _ _))⟩ ?_
   rintro V8 ⟨hu8,bx8,by8⟩
   have HB8:=hide (And.intro hu8 (And.intro bx8 by8))
   clear HB7 x0 y0 x1 y1 x2 y2 x3 y3 y4 y5 y6 y7 y8 y9 y10 lx ly
   refine (HW5.out _).mono ?_
   intro p8
   have x0:=bx8.cell 0 rfl
   have x1:=bx8.cell 1 rfl
   have x2:=bx8.cell 2 rfl
   have x3:=bx8.cell 3 rfl
   have y0:=by8.cell 0 rfl
   have y1:=by8.cell 1 rfl
   have y2:=by8.cell 2 rfl
   have y3:=by8.cell 3 rfl
   have y4:=by8.cell 4 rfl
   have y5:=by8.cell 5 rfl
   have y6:=by8.cell 6 rfl
   have y7:=by8.cell 7 rfl
   have y8:=by8.cell 8 rfl
   have y9:=by8.cell 9 rfl
   have y10:=by8.cell 10 rfl
   have lx:=bx8.lt
   have ly:=by8.lt
   clear hu8 bx8 by8
   cases T5
   · go_wp2
     go_ret
     exact ⟨ret_int (by simp [offF]),(by with_reducible repeat (first|exact HB8.out.1|exact Up.refl _|apply Up.ext|apply Up.alloc|apply Up.drew|refine Up.setCell ?_ (by simp only;omega) _))⟩
   go_wp2_with fail
   go_at_call 45
   refine forgetK (fun V=>Up w V∧Box V w.heap.size #[.slice a n c,.int .i64 home,.slice sa sn sc,.slice ca cn cc] 29∧Box V (w.heap.size+1) #[.int .i64 1,.int .i64 st,.int .i64 ct,.int .i64 tk,.int .i64 dx,.int .i64 dy,.int .i64 er,.int .i64 fr,.int .i64 wd,.int .i64 co,.bool su] 50) ⟨(by with_reducible repeat (first|exact HB8.out.1|exact Up.refl _|apply Up.ext|apply Up.alloc|apply Up.drew|refine Up.setCell ?_ (by simp only;omega) _)),(by with_reducible repeat (first|exact HB8.out.2.1|apply Box.ext|apply Box.alloc|apply Box.drew|refine Box.other ?_ (by omega) _ _)),(by with_reducible repeat (first|exact HB8.out.2.2|apply Box.ext|apply Box.alloc|apply Box.drew|refine Box.other ?_ (by omega) _ _))⟩ ?_
   rintro V9 ⟨hu9,bx9,by9⟩
   have HB9:=hide (And.intro hu9 (And.intro bx9 by9))
   clear HB8 x0 y0 x1 y1 x2 y2 x3 y3 y4 y5 y6 y7 y8 y9 y10 lx ly
   refine (HW6.out _).mono ?_
   intro p9
   have x0:=bx9.cell 0 rfl
   have x1:=bx9.cell 1 rfl
   have x2:=bx9.cell 2 rfl
   have x3:=bx9.cell 3 rfl
   have y0:=by9.cell 0 rfl
   have y1:=by9.cell 1 rfl
   have y2:=by9.cell 2 rfl
   have y3:=by9.cell 3 rfl
   have y4:=by9.cell 4 rfl
   have y5:=by9.cell 5 rfl
   have y6:=by9.cell 6 rfl
   have y7:=by9.cell 7 rfl
   have y8:=by9.cell 8 rfl
   have y9:=by9.cell 9 rfl
   have y10:=by9.cell 10 rfl
   have lx:=bx9.lt
   have ly:=by9.lt
   clear hu9 bx9 by9
   cases T6
   · go_wp2
     go_ret
     exact ⟨ret_int (by simp [offF]),(by with_reducible repeat (first|exact HB9.out.1|exact Up.refl _|apply Up.ext|apply Up.alloc|apply Up.drew|refine Up.setCell ?_ (by simp only;omega) _))⟩
   by_cases hx:dx=0
   · subst hx
     by_cases hy:dy=0
     · subst hy
       go_wp2
       go_ret
       exact ⟨ret_int (by simp [offF]),(by with_reducible repeat (first|exact HB9.out.1|exact Up.refl _|apply Up.ext|apply Up.alloc|apply Up.drew|refine Up.setCell ?_ (by simp only;omega) _))⟩
     have hyb:(dy==0)=false:=by simpa using hy
     go_wp2_with fail
     go_at_call 45
     refine forgetK (fun V=>Up w V∧Box V w.heap.size #[.slice a n c,.int .i64 home,.slice sa sn sc,.slice ca cn cc] 29∧Box V (w.heap.size+1) #[.int .i64 1,.int .i64 st,.int .i64 ct,.int .i64 tk,.int .i64 0,.int .i64 dy,.int .i64 er,.int .i64 fr,.int .i64 wd,.int .i64 co,.bool su] 50) ⟨(by with_reducible repeat (first|exact HB9.out.1|exact Up.refl _|apply Up.ext|apply Up.alloc|apply Up.drew|refine Up.setCell ?_ (by simp only;omega) _)),(by with_reducible repeat (first|exact HB9.out.2.1|apply Box.ext|apply Box.alloc|apply Box.drew|refine Box.other ?_ (by omega) _ _)),(by with_reducible repeat (first|exact HB9.out.2.2|apply Box.ext|apply Box.alloc|apply Box.drew|refine Box.other ?_ (by omega) _ _))⟩ ?_
     rintro V10 ⟨hu10,bx10,by10⟩
     have HB10:=hide (And.intro hu10 (And.intro bx10 by10))
     clear HB9 x0 y0 x1 y1 x2 y2 x3 y3 y4 y5 y6 y7 y8 y9 y10 lx ly
     refine (HW7.out _).mono ?_
     intro p10
     have x0:=bx10.cell 0 rfl
     have x1:=bx10.cell 1 rfl
     have x2:=bx10.cell 2 rfl
     have x3:=bx10.cell 3 rfl
     have y0:=by10.cell 0 rfl
     have y1:=by10.cell 1 rfl
     have y2:=by10.cell 2 rfl
     have y3:=by10.cell 3 rfl
     have y4:=by10.cell 4 rfl
     have y5:=by10.cell 5 rfl
     have y6:=by10.cell 6 rfl
     have y7:=by10.cell 7 rfl
     have y8:=by10.cell 8 rfl
     have y9:=by10.cell 9 rfl
     have y10:=by10.cell 10 rfl
     have lx:=bx10.lt
     have ly:=by10.lt
     clear hu10 bx10 by10
     cases T7
     · go_wp2
       go_ret
       exact ⟨ret_int (by simp [offF,hyb]),(by with_reducible repeat (first|exact HB10.out.1|exact Up.refl _|apply Up.ext|apply Up.alloc|apply Up.drew|refine Up.setCell ?_ (by simp only;omega) _))⟩
     go_wp2
     go_ret
     exact ⟨ret_int (by simp [offF,hyb]),(by with_reducible repeat (first|exact HB10.out.1|exact Up.refl _|apply Up.ext|apply Up.alloc|apply Up.drew|refine Up.setCell ?_ (by simp only;omega) _))⟩
   have hxb:(dx==0)=false:=by simpa using hx
   go_wp2_with fail
   go_at_call 45
   refine forgetK (fun V=>Up w V∧Box V w.heap.size #[.slice a n c,.int .i64 home,.slice sa sn sc,.slice ca cn cc] 29∧Box V (w.heap.size+1) #[.int .i64 1,.int .i64 st,.int .i64 ct,.int .i64 tk,.int .i64 dx,.int .i64 dy,.int .i64 er,.int .i64 fr,.int .i64 wd,.int .i64 co,.bool su] 50) ⟨(by with_reducible repeat (first|exact HB9.out.1|exact Up.refl _|apply Up.ext|apply Up.alloc|apply Up.drew|refine Up.setCell ?_ (by simp only;omega) _)),(by with_reducible repeat (first|exact HB9.out.2.1|apply Box.ext|apply Box.alloc|apply Box.drew|refine Box.other ?_ (by omega) _ _)),(by with_reducible repeat (first|exact HB9.out.2.2|apply Box.ext|apply Box.alloc|apply Box.drew|refine Box.other ?_ (by omega) _ _))⟩ ?_
   rintro V10 ⟨hu10,bx10,by10⟩
   have HB10:=hide (And.intro hu10 (And.intro bx10 by10))
   clear HB9 x0 y0 x1 y1 x2 y2 x3 y3 y4 y5 y6 y7 y8 y9 y10 lx ly
   refine (HW7.out _).mono ?_
   intro p10
   have x0:=bx10.cell 0 rfl
   have x1:=bx10.cell 1 rfl
   have x2:=bx10.cell 2 rfl
   have x3:=bx10.cell 3 rfl
   have y0:=by10.cell 0 rfl
   have y1:=by10.cell 1 rfl
   have y2:=by10.cell 2 rfl
   have y3:=by10.cell 3 rfl
   have y4:=by10.cell 4 rfl
   have y5:=by10.cell 5 rfl
   have y6:=by10.cell 6 rfl
   have y7:=by10.cell 7 rfl
   have y8:=by10.cell 8 rfl
   have y9:=by10.cell 9 rfl
   have y10:=by10.cell 10 rfl
   have lx:=bx10.lt
   have ly:=by10.lt
   clear hu10 bx10 by10
   cases T7
   · go_wp2
     go_ret
     exact ⟨ret_int (by simp [offF,hxb]),(by with_reducible repeat (first|exact HB10.out.1|exact Up.refl _|apply Up.ext|apply Up.alloc|apply Up.drew|refine Up.setCell ?_ (by simp only;omega) _))⟩
   go_wp2
   go_ret
   exact ⟨ret_int (by simp [offF,hxb]),(by with_reducible repeat (first|exact HB10.out.1|exact Up.refl _|apply Up.ext|apply Up.alloc|apply Up.drew|refine Up.setCell ?_ (by simp only;omega) _))⟩
 · go_wp2_with fail
   go_at_call 45
   refine forgetK (fun V=>Up w V∧Box V w.heap.size #[.slice a n c,.int .i64 home,.slice sa sn sc,.slice ca cn cc] 29∧Box V (w.heap.size+1) #[.int .i64 2,.int .i64 st,.int .i64 ct,.int .i64 tk,.int .i64 dx,.int .i64 dy,.int .i64 er,.int .i64 fr,.int .i64 wd,.int .i64 co,.bool su] 50) ⟨(by with_reducible repeat (first|exact HB1.out.1|exact Up.refl _|apply Up.ext|apply Up.alloc|apply Up.drew|refine Up.setCell ?_ (by simp only;omega) _)),(by with_reducible repeat (first|exact HB1.out.2.1|apply Box.ext|apply Box.alloc|apply Box.drew|refine Box.other ?_ (by omega) _ _)),(by with_reducible repeat (first|exact HB1.out.2.2|apply Box.ext|apply Box.alloc|apply Box.drew|refine Box.other ?_ (by omega) _ _))⟩ ?_
   rintro V2 ⟨hu2,bx2,by2⟩
   have HB2:=hide (And.intro hu2 (And.intro bx2 by2))
   clear HB1 x0 y0 x1 y1 x2 y2 x3 y3 y4 y5 y6 y7 y8 y9 y10 lx ly
   refine (HW1.out _).mono ?_
   intro p2
   have x0:=bx2.cell 0 rfl
   have x1:=bx2.cell 1 rfl
   have x2:=bx2.cell 2 rfl
   have x3:=bx2.cell 3 rfl
   have y0:=by2.cell 0 rfl
   have y1:=by2.cell 1 rfl
   have y2:=by2.cell 2 rfl
   have y3:=by2.cell 3 rfl
   have y4:=by2.cell 4 rfl
   have y5:=by2.cell 5 rfl
   have y6:=by2.cell 6 rfl
   have y7:=by2.cell 7 rfl
   have y8:=by2.cell 8 rfl
   have y9:=by2.cell 9 rfl
   have y10:=by2.cell 10 rfl
   have lx:=bx2.lt
   have ly:=by2.lt
   clear hu2 bx2 by2
   cases T1
   · go_wp2
     go_ret
     exact ⟨ret_int (by simp [offF]),(by with_reducible repeat (first|exact HB2.out.1|exact Up.refl _|apply Up.ext|apply Up.alloc|apply Up.drew|refine Up.setCell ?_ (by simp only;omega) _))⟩
   go_wp2_with fail
   go_at_call 86
   refine forgetK (fun V=>Up w V∧Box V w.heap.size #[.slice a n c,.int .i64 home,.slice sa sn sc,.slice ca cn cc] 29∧Box V (w.heap.size+1) #[.int .i64 2,.int .i64 st,.int .i64 ct,.int .i64 tk,.int .i64 dx,.int .i64 dy,.int .i64 er,.int .i64 fr,.int .i64 wd,.int .i64 co,.bool su] 50) ⟨(by with_reducible repeat (first|exact HB2.out.1|exact Up.refl _|apply Up.ext|apply Up.alloc|apply Up.drew|refine Up.setCell ?_ (by simp only;omega) _)),(by with_reducible repeat (first|exact HB2.out.2.1|apply Box.ext|apply Box.alloc|apply Box.drew|refine Box.other ?_ (by omega) _ _)),(by with_reducible repeat (first|exact HB2.out.2.2|apply Box.ext|apply Box.alloc|apply Box.drew|refine Box.other ?_ (by omega) _ _))⟩ ?_
   rintro V3 ⟨hu3,bx3,by3⟩
   have HB3:=hide (And.intro hu3 (And.intro bx3 by3))
   clear HB2 x0 y0 x1 y1 x2 y2 x3 y3 y4 y5 y6 y7 y8 y9 y10 lx ly
   refine (HS.out _ hu3 by3).mono ?_
   intro p3
   have x0:=bx3.cell 0 rfl
   have x1:=bx3.cell 1 rfl
   have x2:=bx3.cell 2 rfl
   have x3:=bx3.cell 3 rfl
   have y0:=by3.cell 0 rfl
   have y1:=by3.cell 1 rfl
   have y2:=by3.cell 2 rfl
   have y3:=by3.cell 3 rfl
   have y4:=by3.cell 4 rfl
   have y5:=by3.cell 5 rfl
   have y6:=by3.cell 6 rfl
   have y7:=by3.cell 7 rfl
   have y8:=by3.cell 8 rfl
   have y9:=by3.cell 9 rfl
   have y10:=by3.cell 10 rfl
   have lx:=bx3.lt
   have ly:=by3.lt
   clear hu3 bx3 by3
   cases S1
   · go_wp2
     go_ret
     exact ⟨ret_int (by simp [offF]),(by with_reducible repeat (first|exact HB3.out.1|exact Up.refl _|apply Up.ext|apply Up.alloc|apply Up.drew|refine Up.setCell ?_ (by simp only;omega) _))⟩
   go_wp2_with fail
   go_at_call 45
   refine forgetK (fun V=>Up w V∧Box V w.heap.size #[.slice a n c,.int .i64 home,.slice sa sn sc,.slice ca cn cc] 29∧Box V (w.heap.size+1) #[.int .i64 2,.int .i64 st,.int .i64 ct,.int .i64 tk,.int .i64 dx,.int .i64 dy,.int .i64 er,.int .i64 fr,.int .i64 wd,.int .i64 co,.bool su] 50) ⟨(by with_reducible repeat (first|exact HB3.out.1|exact Up.refl _|apply Up.ext|apply Up.alloc|apply Up.drew|refine Up.setCell ?_ (by simp only;omega) _)),(by with_reducible repeat (first|exact HB3.out.2.1|apply Box.ext|apply Box.alloc|apply Box.drew|refine Box.other ?_ (by omega) _ _)),(by with_reducible repeat (first|exact HB3.out.2.2|apply Box.ext|apply Box.alloc|apply Box.drew|refine Box.other ?_ (by omega) _ _))⟩ ?_
   rintro V4 ⟨hu4,bx4,by4⟩
   have HB4:=hide (And.intro hu4 (And.intro bx4 by4))
   clear HB3 x0 y0 x1 y1 x2 y2 x3 y3 y4 y5 y6 y7 y8 y9 y10 lx ly
   refine (HW2.out _).mono ?_
   intro p4
   have x0:=bx4.cell 0 rfl
   have x1:=bx4.cell 1 rfl
   have x2:=bx4.cell 2 rfl
   have x3:=bx4.cell 3 rfl
   have y0:=by4.cell 0 rfl
   have y1:=by4.cell 1 rfl
   have y2:=by4.cell 2 rfl
   have y3:=by4.cell 3 rfl
   have y4:=by4.cell 4 rfl
   have y5:=by4.cell 5 rfl
   have y6:=by4.cell 6 rfl
   have y7:=by4.cell 7 rfl
   have y8:=by4.cell 8 rfl
   have y9:=by4.cell 9 rfl
   have y10:=by4.cell 10 rfl
   have lx:=bx4.lt
   have ly:=by4.lt
   clear hu4 bx4 by4
   cases T2
   · go_wp2
     go_ret
     exact ⟨ret_int (by simp [offF]),(by with_reducible repeat (first|exact HB4.out.1|exact Up.refl _|apply Up.ext|apply Up.alloc|apply Up.drew|refine Up.setCell ?_ (by simp only;omega) _))⟩
   go_wp2_with fail
   go_at_call 45
   refine forgetK (fun V=>Up w V∧Box V w.heap.size #[.slice a n c,.int .i64 home,.slice sa sn sc,.slice ca cn cc] 29∧Box V (w.heap.size+1) #[.int .i64 2,.int .i64 st,.int .i64 ct,.int .i64 tk,.int .i64 dx,.int .i64 dy,.int .i64 er,.int .i64 fr,.int .i64 wd,.int .i64 co,.bool su] 50) ⟨(by with_reducible repeat (first|exact HB4.out.1|exact Up.refl _|apply Up.ext|apply Up.alloc|apply Up.drew|refine Up.setCell ?_ (by simp only;omega) _)),(by with_reducible repeat (first|exact HB4.out.2.1|apply Box.ext|apply Box.alloc|apply Box.drew|refine Box.other ?_ (by omega) _ _)),(by with_reducible repeat (first|exact HB4.out.2.2|apply Box.ext|apply Box.alloc|apply Box.drew|refine Box.other ?_ (by omega) _ _))⟩ ?_
   rintro V5 ⟨hu5,bx5,by5⟩
   have HB5:=hide (And.intro hu5 (And.intro bx5 by5))
   clear HB4 x0 y0 x1 y1 x2 y2 x3 y3 y4 y5 y6 y7 y8 y9 y10 lx ly
   refine (HW3.out _).mono ?_
   intro p5
   have x0:=bx5.cell 0 rfl
   have x1:=bx5.cell 1 rfl
   have x2:=bx5.cell 2 rfl
   have x3:=bx5.cell 3 rfl
   have y0:=by5.cell 0 rfl
   have y1:=by5.cell 1 rfl
   have y2:=by5.cell 2 rfl
   have y3:=by5.cell 3 rfl
   have y4:=by5.cell 4 rfl
   have y5:=by5.cell 5 rfl
   have y6:=by5.cell 6 rfl
   have y7:=by5.cell 7 rfl
   have y8:=by5.cell 8 rfl
   have y9:=by5.cell 9 rfl
   have y10:=by5.cell 10 rfl
   have lx:=bx5.lt
   have ly:=by5.lt
   clear hu5 bx5 by5
   cases T3
   · go_wp2
     go_ret
     exact ⟨ret_int (by simp [offF]),(by with_reducible repeat (first|exact HB5.out.1|exact Up.refl _|apply Up.ext|apply Up.alloc|apply Up.drew|refine Up.setCell ?_ (by simp only;omega) _))⟩
   go_wp2_with fail
   go_at_call 45
   refine forgetK (fun V=>Up w V∧Box V w.heap.size #[.slice a n c,.int .i64 home,.slice sa sn sc,.slice ca cn cc] 29∧Box V (w.heap.size+1) #[.int .i64 2,.int .i64 st,.int .i64 ct,.int .i64 tk,.int .i64 dx,.int .i64 dy,.int .i64 er,.int .i64 fr,.int .i64 wd,.int .i64 co,.bool su] 50) ⟨(by with_reducible repeat (first|exact HB5.out.1|exact Up.refl _|apply Up.ext|apply Up.alloc|apply Up.drew|refine Up.setCell ?_ (by simp only;omega) _)),(by with_reducible repeat (first|exact HB5.out.2.1|apply Box.ext|apply Box.alloc|apply Box.drew|refine Box.other ?_ (by omega) _ _)),(by with_reducible repeat (first|exact HB5.out.2.2|apply Box.ext|apply Box.alloc|apply Box.drew|refine Box.other ?_ (by omega) _ _))⟩ ?_
   rintro V6 ⟨hu6,bx6,by6⟩
   have HB6:=hide (And.intro hu6 (And.intro bx6 by6))
   clear HB5 x0 y0 x1 y1 x2 y2 x3 y3 y4 y5 y6 y7 y8 y9 y10 lx ly
   refine (HW4.out _).mono ?_
   intro p6
   have x0:=bx6.cell 0 rfl
   have x1:=bx6.cell 1 rfl
   have x2:=bx6.cell 2 rfl
   have x3:=bx6.cell 3 rfl
   have y0:=by6.cell 0 rfl
   have y1:=by6.cell 1 rfl
   have y2:=by6.cell 2 rfl
   have y3:=by6.cell 3 rfl
   have y4:=by6.cell 4 rfl
   have y5:=by6.cell 5 rfl
   have y6:=by6.cell 6 rfl
   have y7:=by6.cell 7 rfl
   have y8:=by6.cell 8 rfl
   have y9:=by6.cell 9 rfl
   have y10:=by6.cell 10 rfl
   have lx:=bx6.lt
   have ly:=by6.lt
   clear hu6 bx6 by6
   cases T4
   · go_wp2
     go_ret
     exact ⟨ret_int (by simp [offF]),(by with_reducible repeat (first|exact HB6.out.1|exact Up.refl _|apply Up.ext|apply Up.alloc|apply Up.drew|refine Up.setCell ?_ (by simp only;omega) _))⟩
   go_wp2
   go_ret
   exact ⟨ret_int (by simp [offF]),(by with_reducible repeat (first|exact HB6.out.1|exact Up.refl _|apply Up.ext|apply Up.alloc|apply Up.drew|refine Up.setCell ?_ (by simp only;omega) _))⟩
end Go.Proofs.YteafglginnonnaaGreat
/- Package watch: squares, turns, what is in a field. Conditions: bounds. -/
namespace Go.Proofs.YteafglginnonnaaGreat
open Go.RowKit Go.Shelf
abbrev postA (k:KndD):Array Value:=#[.int .i64 (k.wx),.int .i64 (k.wy),.int .i64 (k.far),.int .i64 (k.err)]
abbrev scopeA (k:KndD):Array Value:=#[.int .i64 (k.wx),.int .i64 (k.wy),.int .i64 (k.far),.int .i64 (k.err),.int .i64 (k.dx),.int .i64 (k.dy),.int .i64 (k.lo),.int .i64 (k.hi),.int .i64 (k.wide)]
theorem wsquare_any {k:KndD} {p:Int×Int} (hk:KBd k) (hp:PBd p) (w:World):Gives Tryz.prog 295 #[.agg (postA k),.agg #[.int .i64 (p.1),.int .i64 (p.2)]] w (.int .i64 (sqK k p)):=by
 have h:=sq_bdK hk hp
 unfold sqK postA at *
 obtain ⟨p1,p2⟩:=p
 obtain ⟨⟨⟨a1,a2⟩,a3,a4⟩,⟨b1,b2⟩,⟨b3,b4⟩,b5,b6⟩:=h
 dsimp only at *
 generalize k.wx=wx at *
 generalize k.wy=wy at *
 generalize k.far=fr at *
 generalize k.err=er at *
 clear hk hp
 (unfold Gives;go_enter Tryz.func295,Tryz.ntmps295)
 go_wp2
 go_ret
 exact ⟨rfl,(by repeat (first|with_reducible (first|exact Up.refl _|apply Up.plus)|apply Up.ext|apply Up.alloc|apply Up.drew|refine Up.setCell ?_ (by simp;try omega) _))⟩
theorem wturns_any {k:KndD} {p:Int×Int} (hk:KBd k) (hp:PBd p) (w:World):Gives Tryz.prog 141 #[.agg (scopeA k),.agg #[.int .i64 (p.1),.int .i64 (p.2)]] w (.tuple #[.int .i64 (crK k p),.int .i64 (doK k p)]):=by
 have h:=sq_bdK hk hp
 have h2:=cr_bdK hk hp
 unfold crK doK scopeA at *
 obtain ⟨p1,p2⟩:=p
 obtain ⟨⟨⟨a1,a2⟩,a3,a4⟩,_⟩:=h
 obtain ⟨⟨⟨b1,b2⟩,b3,b4⟩,⟨⟨b5,b6⟩,b7,b8⟩,⟨b9,b10⟩,b11,b12⟩:=h2
 dsimp only at *
 generalize k.wx=wx at *
 generalize k.wy=wy at *
 generalize k.far=fr at *
 generalize k.err=er at *
 generalize k.dx=dx at *
 generalize k.dy=dy at *
 generalize k.lo=lo at *
 generalize k.hi=hi at *
 generalize k.wide=wd at *
 clear hk hp
 (unfold Gives;go_enter Tryz.func141,Tryz.ntmps141)
 go_wp2_with fail
 ((first | with_reducible refine wp_region_ext2 (by kernel_rfl) (by kernel_rfl) ?_ | refine wp_region_ext (by kernel_rfl) (by kernel_rfl) ?_);(repeat (go_big_quiet_step (fail)));refine wpQuiet_nil ?_;intro _ hw';obtain ⟨_,hw''⟩:=hw';subst hw'')
 go_wp2_with fail
 ((first | with_reducible refine wp_region_ext2 (by kernel_rfl) (by kernel_rfl) ?_ | refine wp_region_ext (by kernel_rfl) (by kernel_rfl) ?_);(repeat (go_big_quiet_step (fail)));refine wpQuiet_nil ?_;intro _ hw';obtain ⟨_,hw''⟩:=hw';subst hw'')
 go_wp2
 refine bodyPost_give (by repeat (first|with_reducible (first|exact Up.refl _|apply Up.plus)|apply Up.ext|apply Up.alloc|apply Up.drew|refine Up.setCell ?_ (by simp;try omega) _)) rfl ⟨_,(by simp [results,Tryz.results141,go_sem];rfl),?_⟩
 rfl
theorem wreaches_any {k:KndD} {p:Int×Int} (hk:KBd k) (hp:PBd p) (w:World):Gives Tryz.prog 290 #[.agg (postA k),.agg #[.int .i64 (p.1),.int .i64 (p.2)]] w (.bool (reachK k p)):=by
 have HS:=hide (fun W=>wsquare_any hk hp W)
 have hf:=hk.far
 have hm:=mul_abs (show -134217728≤k.far by omega) hf.2 (show -134217728≤k.far by omega) hf.2
 have e:(134217728:Int)*134217728=18014398509481984:=by decide
 rw [e] at hm
 have hb:=(sq_bdK hk hp).2.2.2
 unfold reachK
 obtain ⟨p1,p2⟩:=p
 dsimp only at *
 generalize sqK k (p1,p2)=S at *
 unfold postA at *
 generalize k.wx=wx at *
 generalize k.wy=wy at *
 generalize k.far=fr at *
 generalize k.err=er at *
 clear hk hp
 (unfold Gives;go_enter Tryz.func290,Tryz.ntmps290)
 go_wp2_with fail
 ((first | with_reducible refine wp_region_ext2 (by kernel_rfl) (by kernel_rfl) ?_ | refine wp_region_ext (by kernel_rfl) (by kernel_rfl) ?_);(repeat (go_big_quiet_step ((go_at_call 295;exact Gives.inRegion (HS.out _)))));refine wpQuiet_nil ?_;intro _ hw';obtain ⟨_,hw''⟩:=hw';subst hw'')
 go_wp2
 go_ret
 exact ⟨rfl,(by repeat (first|with_reducible (first|exact Up.refl _|apply Up.plus)|apply Up.ext|apply Up.alloc|apply Up.drew|refine Up.setCell ?_ (by simp;try omega) _))⟩
theorem wwithin2_any {k:KndD} {p:Int×Int} {g:Int} (hk:KBd k) (hp:PBd p) (g0:0≤g) (g1:g≤1000000) (w:World):Gives Tryz.prog 99 #[.agg (scopeA k),.agg #[.int .i64 (p.1),.int .i64 (p.2)],.int .i64 g] w (.bool (withinK k p g)):=by
 have HT:=hide (fun W=>wturns_any hk hp W)
 have hc:=cr_bdK hk hp
 have hd:=wd_bdK hk hp g0 g1
 have hn:-g*doK k p = -(g*doK k p):=Int.neg_mul _ _
 unfold withinK
 obtain ⟨p1,p2⟩:=p
 dsimp only at *
 have hc1:=hc.2.2.1
 have hc2:=hc.2.2.2
 generalize crK k (p1,p2)=C at *
 generalize doK k (p1,p2)=D at *
 unfold scopeA at *
 generalize k.wx=wx at *
 generalize k.wy=wy at *
 generalize k.far=fr at *
 generalize k.err=er at *
 generalize k.dx=dx at *
 generalize k.dy=dy at *
 generalize k.lo=lo at *
 generalize k.hi=hi at *
 generalize k.wide=wd at *
 clear hk hp hc
 have hd1:-558345748480000000 ≤ -g*D ∧ -g*D≤558345748480000000:=by omega
 clear hn
 by_cases h0:0<D
 · have h0b:decide (0<D)=true:=by simpa using h0
   rw [h0b,Bool.true_and]
   by_cases h1:-g*D≤1000000*C
   · have h1b:decide (-g*D≤1000000*C)=true:=by simpa using h1
     rw [h1b,Bool.true_and]
     (unfold Gives;go_enter Tryz.func99,Tryz.ntmps99)
     go_wp2_with (go_at_call 141;refine (HT.out _).mono ?_;intro _)
     go_ret
     exact ⟨rfl,(by repeat (first|with_reducible (first|exact Up.refl _|apply Up.plus)|apply Up.ext|apply Up.alloc|apply Up.drew|refine Up.setCell ?_ (by simp;try omega) _))⟩
   · have h1b:decide (-g*D≤1000000*C)=false:=by simpa using h1
     rw [h1b,Bool.false_and]
     (unfold Gives;go_enter Tryz.func99,Tryz.ntmps99)
     go_wp2_with (go_at_call 141;refine (HT.out _).mono ?_;intro _)
     go_ret
     exact ⟨rfl,(by repeat (first|with_reducible (first|exact Up.refl _|apply Up.plus)|apply Up.ext|apply Up.alloc|apply Up.drew|refine Up.setCell ?_ (by simp;try omega) _))⟩
 · have h0b:decide (0<D)=false:=by simpa using h0
   rw [h0b,Bool.false_and]
   (unfold Gives;go_enter Tryz.func99,Tryz.ntmps99)
   go_wp2_with (go_at_call 141;refine (HT.out _).mono ?_;intro _)
   go_ret
   exact ⟨rfl,(by repeat (first|with_reducible (first|exact Up.refl _|apply Up.plus)|apply Up.ext|apply Up.alloc|apply Up.drew|refine Up.setCell ?_ (by simp;try omega) _))⟩
theorem wrfield_any {k:KndD} {p:Int×Int} (hk:KBd k) (hp:PBd p) (hs:k.sc=false) (w:World):Gives Tryz.prog 291 #[.agg (postA k),.agg #[.int .i64 (p.1),.int .i64 (p.2)]] w (.bool (fieldK k p)):=by
 have HR:=hide (fun W=>wreaches_any hk hp W)
 unfold fieldK
 rw [hs,Bool.not_false,Bool.true_or,Bool.and_true]
 generalize reachK k p=R at *
 unfold postA at *
 generalize k.wx=wx at *
 generalize k.wy=wy at *
 generalize k.far=fr at *
 generalize k.err=er at *
 clear hk hp hs
 (unfold Gives;go_enter Tryz.func291,Tryz.ntmps291)
 go_wp2_with (go_at_call 290;refine (HR.out _).mono ?_;intro _)
 go_ret
 exact ⟨rfl,(by repeat (first|with_reducible (first|exact Up.refl _|apply Up.plus)|apply Up.ext|apply Up.alloc|apply Up.drew|refine Up.setCell ?_ (by simp;try omega) _))⟩
theorem wsfield_any {k:KndD} {p:Int×Int} (hk:KBd k) (hp:PBd p) (hs:k.sc=true) (w:World):Gives Tryz.prog 297 #[.agg (scopeA k),.agg #[.int .i64 (p.1),.int .i64 (p.2)]] w (.bool (fieldK k p)):=by
 have HR:=hide (fun W=>wreaches_any hk hp W)
 have HW:=hide (fun W=>wwithin2_any hk hp hk.wide.1 hk.wide.2 W)
 unfold fieldK
 rw [hs,Bool.not_true,Bool.false_or]
 generalize reachK k p=R at *
 generalize withinK k p k.wide=T at *
 unfold postA scopeA at *
 generalize k.wx=wx at *
 generalize k.wy=wy at *
 generalize k.far=fr at *
 generalize k.err=er at *
 generalize k.dx=dx at *
 generalize k.dy=dy at *
 generalize k.lo=lo at *
 generalize k.hi=hi at *
 generalize k.wide=wd at *
 clear hk hp hs
 cases R
 all_goals
  (unfold Gives;go_enter Tryz.func297,Tryz.ntmps297)
  go_wp2_with (first|(go_at_call 290;refine (HR.out _).mono ?_;intro _)|(go_at_call 99;refine (HW.out _).mono ?_;intro _))
  go_ret
  exact ⟨rfl,(by repeat (first|with_reducible (first|exact Up.refl _|apply Up.plus)|apply Up.ext|apply Up.alloc|apply Up.drew|refine Up.setCell ?_ (by simp;try omega) _))⟩
end Go.Proofs.YteafglginnonnaaGreat
/- Plain facts of what is seen and read of areas: places of an area, areas with a place in common, ranges. No program. -/
namespace Go.Proofs.YteafglginnonnaaGreat
open Go.RowKit
def InA (q:Int×Int) (a:Ar4):Prop:=(a.1≤q.1∧q.1≤a.2.1)∧a.2.2.1≤q.2∧q.2≤a.2.2.2
def ABd (a:Ar4):Prop:=(-33554432≤a.1∧a.1≤a.2.1∧a.2.1≤33554432) ∧ -33554432≤a.2.2.1∧a.2.2.1≤a.2.2.2∧a.2.2.2≤33554432
theorem areaB_iff (a:Ar4):areaB a=true↔ABd a:=by
 unfold areaB ABd
 simp only [Bool.and_eq_true,decide_eq_true_eq,nearV_iff]
 omega
theorem InA.bd {q:Int×Int} {a:Ar4} (h:InA q a) (ha:ABd a):PBd q:=by
 obtain ⟨⟨h1,h2⟩,h3,h4⟩:=h
 obtain ⟨⟨a1,a2,a3⟩,b1,b2,b3⟩:=ha
 unfold PBd
 omega
theorem corner_in {a:Ar4} (ha:ABd a):∀ p∈cornersA a,InA p a:=by
 obtain ⟨⟨a1,a2,a3⟩,b1,b2,b3⟩:=ha
 intro p hp
 simp only [cornersA,List.mem_cons,List.not_mem_nil,or_false] at hp
 rcases hp with rfl | rfl | rfl | rfl <;> (unfold InA;dsimp only;omega)
theorem sq_le {x a b:Int} (h1:a≤x) (h2:x≤b):x*x≤max (a*a) (b*b):=by
 rcases Int.le_total 0 x with h | h
 · have:=Int.mul_le_mul h2 h2 h (by omega)
   omega
 · have:=Int.mul_le_mul (show -x ≤ -a by omega) (show -x ≤ -a by omega) (by omega) (by omega)
   rw [Int.neg_mul_neg,Int.neg_mul_neg] at this
   omega
theorem most_eq (k:KndD) (a:Ar4):mostK k a=max (max (max (max 0 (sqK k (a.1,a.2.2.1))) (sqK k (a.1,a.2.2.2))) (sqK k (a.2.1,a.2.2.1))) (sqK k (a.2.1,a.2.2.2)):=rfl
theorem most_ge {k:KndD} {a:Ar4} {q:Int×Int} (hq:InA q a):sqK k q≤mostK k a:=by
 rw [most_eq]
 have h1:=sq_le (x:=q.1 - k.wx) (a:=a.1 - k.wx) (b:=a.2.1 - k.wx) (by have:=hq.1;omega) (by have:=hq.1;omega)
 have h2:=sq_le (x:=q.2 - k.wy) (a:=a.2.2.1 - k.wy) (b:=a.2.2.2 - k.wy) (by have:=hq.2;omega) (by have:=hq.2;omega)
 unfold sqK
 dsimp only
 omega
theorem most_le {k:KndD} {a:Ar4} {n:Int} (h0:0≤n) (h:∀ p∈cornersA a,sqK k p≤n):mostK k a≤n:=by
 rw [most_eq]
 have h1:=h (a.1,a.2.2.1) (by simp [cornersA])
 have h2:=h (a.1,a.2.2.2) (by simp [cornersA])
 have h3:=h (a.2.1,a.2.2.1) (by simp [cornersA])
 have h4:=h (a.2.1,a.2.2.2) (by simp [cornersA])
 omega
theorem near_in (k:KndD) {a:Ar4} (ha:ABd a):InA (nearK k a) a:=by
 obtain ⟨⟨a1,a2,a3⟩,b1,b2,b3⟩:=ha
 unfold InA nearK
 dsimp only
 omega
theorem sq_nonneg (k:KndD) (p:Int×Int):0≤sqK k p:=by
 have h:∀ x:Int,0≤x*x:=fun x=>by
  rcases Int.le_total 0 x with h3 | h3
  · exact Int.mul_nonneg h3 h3
  · exact Int.mul_nonneg_of_nonpos_of_nonpos h3 h3
 have h1:=h (p.1 - k.wx)
 have h2:=h (p.2 - k.wy)
 unfold sqK
 omega
theorem slope_spec {k:KndD} {p:Int×Int} (h:0<doK k p) (m:Int):(m≤(slopeK k p).1↔m*doK k p≤1000000*crK k p)∧((slopeK k p).2≤m↔1000000*crK k p≤m*doK k p):=by
 unfold slopeK
 refine ⟨Int.le_ediv_iff_mul_le h,?_⟩
 have:=Int.le_ediv_iff_mul_le (a:=-m) (b:=-(1000000*crK k p)) h
 rw [Int.neg_mul] at this
 dsimp only
 omega
theorem slope_le {k:KndD} {p:Int×Int} (h:0<doK k p):(slopeK k p).1≤(slopeK k p).2:=by
 have h1:=(slope_spec h (slopeK k p).1).1.1 (Int.le_refl _)
 have h2:=(slope_spec h (slopeK k p).2).2.1 (Int.le_refl _)
 refine Int.not_lt.1 fun hc=>?_
 have:=Int.mul_lt_mul_of_pos_right hc h
 omega
theorem clamp_bd (x:Int):-1099511627776≤clampS x∧clampS x≤1099511627776:=by
 unfold clampS
 omega
theorem clamp_mono {x y:Int} (h:x≤y):clampS x≤clampS y:=by
 unfold clampS
 omega
end Go.Proofs.YteafglginnonnaaGreat
/- Package watch: slopes, what is read of a place, the nearest place of an area, its corners; which areas are valid. Conditions: bounds. -/
namespace Go.Proofs.YteafglginnonnaaGreat
open Go.RowKit Go.Shelf
theorem md_slope {k:KndD} {p:Int×Int} (hk:KBd k) (hp:PBd p) (h:0<doK k p):mdE (1000000*crK k p) (doK k p)=((slopeK k p).1,(slopeK k p).2,0):=by
 have hc:=(cr_bdK hk hp).2.2.1
 have s1:=(slope_spec (k:=k) h (-558345748480000000)).1.2 (by
  have:=Int.mul_le_mul_of_nonneg_left (show (1:Int)≤doK k p by omega) (show (0:Int)≤558345748480000000 by omega)
  omega)
 have s2:=(slope_spec (k:=k) h 558345748480000000).2.2 (by
  have:=Int.mul_le_mul_of_nonneg_left (show (1:Int)≤doK k p by omega) (show (0:Int)≤558345748480000000 by omega)
  omega)
 have s3:=slope_le h
 unfold mdE
 unfold slopeK at *
 dsimp only at *
 have e1:floQ (1000000*crK k p) (doK k p)=1000000*crK k p / doK k p:=by unfold floQ;rw [if_neg (by omega)]
 have e2:ceiQ (1000000*crK k p) (doK k p) = -(-(1000000*crK k p) / doK k p):=by unfold ceiQ floQ;rw [if_neg (by omega)]
 rw [e1,e2]
 split
 · rfl
 · rename_i hn
   exfalso
   apply hn
   omega
theorem mdE_bdd {k:KndD} {p:Int×Int} (hk:KBd k) (hp:PBd p) (h:0<doK k p):(-1152921504606846976≤(slopeK k p).1∧(slopeK k p).1≤1152921504606846976) ∧ -1152921504606846976≤(slopeK k p).2∧(slopeK k p).2≤1152921504606846976:=by
 have hc:=(cr_bdK hk hp).2.2.1
 have s1:=(slope_spec (k:=k) h (-558345748480000000)).1.2 (by
  have:=Int.mul_le_mul_of_nonneg_left (show (1:Int)≤doK k p by omega) (show (0:Int)≤558345748480000000 by omega)
  omega)
 have s2:=(slope_spec (k:=k) h 558345748480000000).2.2 (by
  have:=Int.mul_le_mul_of_nonneg_left (show (1:Int)≤doK k p by omega) (show (0:Int)≤558345748480000000 by omega)
  omega)
 have s3:=slope_le h
 have t1:=(slope_spec (k:=k) h 558345748480000000).1
 omega
set_option maxRecDepth 100000 in
theorem wslope_any {k:KndD} {p:Int×Int} (hk:KBd k) (hp:PBd p) (h:0<doK k p) (w:World):Gives Tryz.prog 304 #[.agg (scopeA k),.agg #[.int .i64 (p.1),.int .i64 (p.2)]] w (.agg #[.int .i64 ((slopeK k p).1),.int .i64 ((slopeK k p).2)]):=by
 have HT:=hide (fun W=>wturns_any hk hp W)
 have HM:=hide (fun W=>muldiv_any 1000000 (crK k p) (doK k p) W)
 rw [show mulDivE 1000000 (crK k p) (doK k p)=((slopeK k p).1,(slopeK k p).2,0) by
  have hc:=cr_bdK hk hp
  unfold mulDivE
  rw [if_pos ⟨(fits_iff _).2 (by omega),(fits_iff _).2 (by omega),(fits_iff _).2 (by omega),by omega⟩]
  exact md_slope hk hp h] at HM
 obtain ⟨p1,p2⟩:=p
 dsimp only at *
 generalize slopeK k (p1,p2)=S at *
 generalize crK k (p1,p2)=C at *
 generalize doK k (p1,p2)=D at *
 unfold scopeA at *
 generalize k.wx=wx at *
 generalize k.wy=wy at *
 generalize k.far=fr at *
 generalize k.err=er at *
 generalize k.dx=dx at *
 generalize k.dy=dy at *
 generalize k.lo=lo at *
 generalize k.hi=hi at *
 generalize k.wide=wd at *
 clear hk hp h
 try dsimp only at HM
 (unfold Gives;go_enter Tryz.func304,Tryz.ntmps304)
 go_wp2_with (first|(go_at_call 141;refine (HT.out _).mono ?_;intro _)|(go_at_call 249;refine (HM.out _).mono ?_;intro _))
 (refine forgetW (fun WF=>Up w WF∧Box WF (w.heap.size+1+1) #[.int .i64 S.1,.int .i64 S.2] 31) ⟨(by repeat (first|with_reducible (first|exact Up.refl _|apply Up.plus)|apply Up.ext|apply Up.alloc|apply Up.drew|refine Up.setCell ?_ (by simp;try omega) _)),(by repeat (first|exact Box.mk rfl|(refine Box.mk ?_;simp;done)|apply Box.ext|apply Box.drew|apply Box.alloc|apply Box.two1|refine Box.other ?_ (by omega) _ _))⟩ ?_;rintro WF ⟨huF,hbF⟩;have zF0:=hbF.cell 0 rfl;have zF1:=hbF.cell 1 rfl;(refine bodyPost_give huF rfl ⟨_,(by simp [results,Tryz.results304,go_sem,zF0,zF1];rfl),?_⟩);rfl)
theorem roots_same {n:Int} (h0:0≤n) (h1:n≤1152921504606846976):rootsS n n=(isq n,upq n,0):=by
 unfold rootsS upq
 rw [if_pos (check_ok (by omega) (Int.le_refl _) h1),if_neg (by omega)]
set_option maxRecDepth 100000 in
theorem wrreads_any {k:KndD} {p:Int×Int} (hk:KBd k) (hp:PBd p) (hs:k.sc=false) (w:World):Gives Tryz.prog 293 #[.agg (postA k),.agg #[.int .i64 (p.1),.int .i64 (p.2)]] w (.agg #[.int .i64 ((readsK k p).1),.int .i64 ((readsK k p).2)]):=by
 have HS:=hide (fun W=>wsquare_any hk hp W)
 have hb:=(sq_bdK hk hp).2.2.2
 have HR:=hide (fun W=>roots_any (sqK k p) (sqK k p) W)
 rw [roots_same hb.1 (by omega)] at HR
 have i1:=isq_spec (sqK k p) hb.1 (by omega)
 have i2:=upq_spec (x:=sqK k p) hb.1 (by omega)
 have i3:isq (sqK k p)≤sqK k p:=by
  rcases Int.lt_or_le (isq (sqK k p)) 1 with h | h
  · omega
  · have:=Int.mul_le_mul_of_nonneg_left h i1.1
    omega
 have i4:upq (sqK k p)≤sqK k p+1:=by unfold upq;split <;> omega
 have he:=hk.err
 unfold readsK
 rw [if_neg (by simp [hs])]
 obtain ⟨p1,p2⟩:=p
 dsimp only at *
 have hI:0≤isq (sqK k (p1,p2))∧isq (sqK k (p1,p2))≤9290873254707201:=by omega
 have hU:0≤upq (sqK k (p1,p2))∧upq (sqK k (p1,p2))≤9290873254707201:=by omega
 clear i1 i2 i3 i4
 generalize isq (sqK k (p1,p2))=I at *
 generalize upq (sqK k (p1,p2))=U at *
 generalize sqK k (p1,p2)=S at *
 unfold postA at *
 generalize k.wx=wx at *
 generalize k.wy=wy at *
 generalize k.far=fr at *
 generalize k.err=er at *
 clear hk hp hs
 (unfold Gives;go_enter Tryz.func293,Tryz.ntmps293)
 go_wp2_with (first|(go_at_call 295;refine (HS.out _).mono ?_;intro _)|(go_at_call 247;refine (HR.out _).mono ?_;intro _))
 (refine forgetW (fun WF=>Up w WF∧Box WF (w.heap.size+1+1) #[.int .i64 ((U - er,I+er):Int×Int).1,.int .i64 ((U - er,I+er):Int×Int).2] 31) ⟨(by repeat (first|with_reducible (first|exact Up.refl _|apply Up.plus)|apply Up.ext|apply Up.alloc|apply Up.drew|refine Up.setCell ?_ (by simp;try omega) _)),(by repeat (first|exact Box.mk rfl|(refine Box.mk ?_;simp;done)|apply Box.ext|apply Box.drew|apply Box.alloc|apply Box.two1|refine Box.other ?_ (by omega) _ _))⟩ ?_;rintro WF ⟨huF,hbF⟩;have zF0:=hbF.cell 0 rfl;have zF1:=hbF.cell 1 rfl;(refine bodyPost_give huF rfl ⟨_,(by simp [results,Tryz.results293,go_sem,zF0,zF1];rfl),?_⟩);rfl)
set_option maxRecDepth 100000 in
theorem wsreads_any {k:KndD} {p:Int×Int} (hk:KBd k) (hp:PBd p) (hs:k.sc=true) (h:0<doK k p) (w:World):Gives Tryz.prog 299 #[.agg (scopeA k),.agg #[.int .i64 (p.1),.int .i64 (p.2)]] w (.agg #[.int .i64 ((readsK k p).1),.int .i64 ((readsK k p).2)]):=by
 have HS:=hide (fun W=>wslope_any hk hp h W)
 have hbd:=mdE_bdd hk hp h
 have he:=hk.err
 have hbi:=hk.bias
 unfold readsK
 rw [if_pos hs]
 obtain ⟨p1,p2⟩:=p
 dsimp only at *
 generalize slopeK k (p1,p2)=S at *
 obtain ⟨S1,S2⟩:=S
 dsimp only at *
 unfold scopeA at *
 generalize k.wx=wx at *
 generalize k.wy=wy at *
 generalize k.far=fr at *
 generalize k.err=er at *
 generalize k.dx=dx at *
 generalize k.dy=dy at *
 generalize k.lo=lo at *
 generalize k.hi=hi at *
 generalize k.wide=wd at *
 clear hk hp h hs
 (unfold Gives;go_enter Tryz.func299,Tryz.ntmps299)
 go_wp2_with (go_at_call 304;refine (HS.out _).mono ?_;intro _)
 (refine forgetW (fun WF=>Up w WF∧Box WF (w.heap.size+1+1) #[.int .i64 ((S2 - hi - er,S1 - lo+er):Int×Int).1,.int .i64 ((S2 - hi - er,S1 - lo+er):Int×Int).2] 31) ⟨(by repeat (first|with_reducible (first|exact Up.refl _|apply Up.plus)|apply Up.ext|apply Up.alloc|apply Up.drew|refine Up.setCell ?_ (by simp;try omega) _)),(by repeat (first|exact Box.mk rfl|(refine Box.mk ?_;simp;done)|apply Box.ext|apply Box.drew|apply Box.alloc|apply Box.two1|refine Box.other ?_ (by omega) _ _))⟩ ?_;rintro WF ⟨huF,hbF⟩;have zF0:=hbF.cell 0 rfl;have zF1:=hbF.cell 1 rfl;(refine bodyPost_give huF rfl ⟨_,(by simp [results,Tryz.results299,go_sem,zF0,zF1];rfl),?_⟩);rfl)
set_option maxRecDepth 100000 in
theorem wnearest_any (k:KndD) (a:Ar4) (w:World):Gives Tryz.prog 296 #[.agg (postA k),.agg #[.int .i64 (a.1),.int .i64 (a.2.1),.int .i64 (a.2.2.1),.int .i64 (a.2.2.2)]] w (.agg #[.int .i64 ((nearK k a).1),.int .i64 ((nearK k a).2)]):=by
 unfold nearK postA
 obtain ⟨x0,x1,y0,y1⟩:=a
 dsimp only
 generalize k.wx=wx
 generalize k.wy=wy
 generalize k.far=fr
 generalize k.err=er
 (unfold Gives;go_enter Tryz.func296,Tryz.ntmps296)
 go_wp2
 all_goals (refine bodyPost_give (by repeat (first|with_reducible (first|exact Up.refl _|apply Up.plus)|apply Up.ext|apply Up.alloc|apply Up.drew|refine Up.setCell ?_ (by simp;try omega) _)) rfl ⟨_,(by simp [results,Tryz.results296,go_sem];rfl),?_⟩)
 all_goals rfl
set_option maxRecDepth 100000 in
theorem wcorners_any (a:Ar4) (w:World):Gives Tryz.prog 137 #[.agg #[.int .i64 (a.1),.int .i64 (a.2.1),.int .i64 (a.2.2.1),.int .i64 (a.2.2.2)]] w (.agg #[.int .i64 (a.1),.int .i64 (a.2.2.1),.int .i64 (a.1),.int .i64 (a.2.2.2),.int .i64 (a.2.1),.int .i64 (a.2.2.1),.int .i64 (a.2.1),.int .i64 (a.2.2.2)]):=by
 obtain ⟨x0,x1,y0,y1⟩:=a
 dsimp only
 (unfold Gives;go_enter Tryz.func137,Tryz.ntmps137)
 go_wp2
 all_goals (refine bodyPost_give (by repeat (first|with_reducible (first|exact Up.refl _|apply Up.plus)|apply Up.ext|apply Up.alloc|apply Up.drew|refine Up.setCell ?_ (by simp;try omega) _)) rfl ⟨_,(by simp [results,Tryz.results137,go_sem];rfl),?_⟩)
 all_goals rfl
set_option maxRecDepth 100000 in
theorem wplace_any (x y:Int) (w:World):Gives Tryz.prog 49 #[.agg #[.int .i64 (x),.int .i64 (y)]] w (.bool (nearV 33554432 (x,y))):=by
 unfold nearV
 dsimp only
 have H1:=hide (fun W=>wwithin_any x (-33554432) 33554432 W)
 have H2:=hide (fun W=>wwithin_any y (-33554432) 33554432 W)
 generalize withinB x (-33554432) 33554432=A at *
 generalize withinB y (-33554432) 33554432=B at *
 cases A
 · (unfold Gives;go_enter Tryz.func49,Tryz.ntmps49)
   go_wp2_with fail
   go_at_call 45
   refine (H1.out _).mono ?_
   intro p1
   go_wp2
   go_ret
   exact ⟨rfl,(by repeat (first|with_reducible (first|exact Up.refl _|apply Up.plus)|apply Up.ext|apply Up.alloc|apply Up.drew|refine Up.setCell ?_ (by simp;try omega) _))⟩
 · (unfold Gives;go_enter Tryz.func49,Tryz.ntmps49)
   go_wp2_with fail
   go_at_call 45
   refine (H1.out _).mono ?_
   intro p1
   go_wp2_with fail
   go_at_call 45
   refine (H2.out _).mono ?_
   intro p2
   go_wp2
   go_ret
   exact ⟨rfl,(by repeat (first|with_reducible (first|exact Up.refl _|apply Up.plus)|apply Up.ext|apply Up.alloc|apply Up.drew|refine Up.setCell ?_ (by simp;try omega) _))⟩
set_option maxRecDepth 100000 in
theorem warea_any (a:Ar4) (w:World):Gives Tryz.prog 51 #[.agg #[.int .i64 (a.1),.int .i64 (a.2.1),.int .i64 (a.2.2.1),.int .i64 (a.2.2.2)]] w (.bool (areaB a)):=by
 obtain ⟨x0,x1,y0,y1⟩:=a
 unfold areaB
 dsimp only
 have H1:=hide (fun W=>wplace_any x0 y0 W)
 have H2:=hide (fun W=>wplace_any x1 y1 W)
 generalize nearV 33554432 (x0,y0)=A at *
 generalize nearV 33554432 (x1,y1)=B at *
 by_cases h1:x0≤x1
 · by_cases h2:y0≤y1
   · rw [decide_eq_true h1,decide_eq_true h2]
     cases A
     · (unfold Gives;go_enter Tryz.func51,Tryz.ntmps51)
       go_wp2_with fail
       go_at_call 49
       refine (H1.out _).mono ?_
       intro p1
       go_wp2
       go_ret
       exact ⟨rfl,(by repeat (first|with_reducible (first|exact Up.refl _|apply Up.plus)|apply Up.ext|apply Up.alloc|apply Up.drew|refine Up.setCell ?_ (by simp;try omega) _))⟩
     · (unfold Gives;go_enter Tryz.func51,Tryz.ntmps51)
       go_wp2_with fail
       go_at_call 49
       refine (H1.out _).mono ?_
       intro p1
       go_wp2_with fail
       go_at_call 49
       refine (H2.out _).mono ?_
       intro p2
       go_wp2
       go_ret
       exact ⟨rfl,(by repeat (first|with_reducible (first|exact Up.refl _|apply Up.plus)|apply Up.ext|apply Up.alloc|apply Up.drew|refine Up.setCell ?_ (by simp;try omega) _))⟩
   · rw [decide_eq_true h1,decide_eq_false h2]
     (unfold Gives;go_enter Tryz.func51,Tryz.ntmps51)
     go_wp2
     go_ret
     exact ⟨rfl,(by repeat (first|with_reducible (first|exact Up.refl _|apply Up.plus)|apply Up.ext|apply Up.alloc|apply Up.drew|refine Up.setCell ?_ (by simp;try omega) _))⟩
 · rw [decide_eq_false h1]
   (unfold Gives;go_enter Tryz.func51,Tryz.ntmps51)
   go_wp2
   go_ret
   exact ⟨rfl,(by repeat (first|with_reducible (first|exact Up.refl _|apply Up.plus)|apply Up.ext|apply Up.alloc|apply Up.drew|refine Up.setCell ?_ (by simp;try omega) _))⟩
end Go.Proofs.YteafglginnonnaaGreat
/- The methods that the program calls through an interface: their names, read off the program's own operations; what each dynamic type runs. No conditions. -/
namespace Go.Proofs.YteafglginnonnaaGreat
open Go.RowKit Go.Shelf
def opName (o:Oper):Option String:=match o.op with
 | .call c=>match c.callee with
  | .invoke _ m=>some m
  | _=>none
 | .makeFunc f _ _=>match f with
  | .method m=>some m
  | _=>none
 | _=>none
def opNames:List Oper→List String
 | []=>[]
 | o::l=>match opName o with
  | some m=>m::opNames l
  | none=>opNames l
def codeNames:Code→List String
 | .region _ ops _=>opNames ops.toList
 | .seq a b=>codeNames a++codeNames b
 | .cond _ a b=>codeNames a++codeNames b
 | .block _ c=>codeNames c
 | .loop c=>codeNames c
 | _=>[]
abbrev theName {n:String} {x:Option String} (_:x=some n):String:=n
def bodyNames (f:Func):List String:=match f.body with
 | some c=>codeNames c
 | none=>[]
abbrev mMay:String:=theName (show (bodyNames Tryz.f52)[0]?=some _ from rfl)
abbrev mField:String:=theName (show (bodyNames Tryz.f52)[1]?=some _ from rfl)
abbrev mValues:String:=theName (show (bodyNames Tryz.f52)[2]?=some _ from rfl)
abbrev mReads:String:=theName (show (bodyNames Tryz.f19)[0]?=some _ from rfl)
end Go.Proofs.YteafglginnonnaaGreat
/- Package watch: whether something is so of all corners of an area. Conditions: the area is valid; what the function that is handed in does. -/
namespace Go.Proofs.YteafglginnonnaaGreat
open Go.RowKit Go.Shelf
theorem corners_vecs {W:World} {b:Nat} {T:TypeId} {a:Ar4} (ha:ABd a) (hb:Box W b #[.int .i64 (a.1),.int .i64 (a.2.2.1),.int .i64 (a.1),.int .i64 (a.2.2.2),.int .i64 (a.2.1),.int .i64 (a.2.2.1),.int .i64 (a.2.1),.int .i64 (a.2.2.2)] T):Vecs (fun _=>True) W (.slice (some ⟨b,0,none⟩) 4 4) (cornersA a):=by
 obtain ⟨⟨h1,h2,h3⟩,h4,h5,h6⟩:=ha
 have i1:I64 a.1:=by unfold I64;omega
 have i2:I64 a.2.1:=by unfold I64;omega
 have i3:I64 a.2.2.1:=by unfold I64;omega
 have i4:I64 a.2.2.2:=by unfold I64;omega
 refine ⟨_,_,rfl,by simp [cornersA],fun _=>⟨b,0,rfl,trivial,hb.lt,fun i x hx=>?_⟩⟩
 have two:∀ (j:Nat) (p:Int×Int),I64 p.1→I64 p.2→W.cell? ⟨b,j*2,none⟩=some (.int .i64 p.1)→W.cell? ⟨b,j*2+1,none⟩=some (.int .i64 p.2)→∃ vs,RTwo W p vs∧vs.length=2∧∀ q u,vs[q]?=some u→W.cell? ⟨b,0+j*2+q,none⟩=some u:=fun j p hi hj c0 c1 =>
  ⟨[.int .i64 p.1,.int .i64 p.2],⟨rfl,hi,hj⟩,rfl,fun q u hq=>by
   match q with
   | 0=>simp at hq;subst hq;rw [Nat.zero_add,Nat.add_zero];exact c0
   | 1=>simp at hq;subst hq;rw [Nat.zero_add];exact c1
   | q+2=>simp at hq⟩
 match i with
 | 0=>simp [cornersA] at hx;subst hx;exact two 0 _ i1 i3 (hb.cell 0 rfl) (hb.cell 1 rfl)
 | 1=>simp [cornersA] at hx;subst hx;exact two 1 _ i1 i4 (hb.cell 2 rfl) (hb.cell 3 rfl)
 | 2=>simp [cornersA] at hx;subst hx;exact two 2 _ i2 i3 (hb.cell 4 rfl) (hb.cell 5 rfl)
 | 3=>simp [cornersA] at hx;subst hx;exact two 3 _ i2 i4 (hb.cell 6 rfl) (hb.cell 7 rfl)
 | i+4=>simp [cornersA] at hx
theorem wall1_c (g:Nat) (cap:Array Value) (eg:∀ args w,(callFunc g args).run Tryz.prog w=.ok (.enter g args) w) {p:Int×Int} {F:Bool} {b:Nat} {w:World} (hb:Box w b #[.func (.func g) #[] cap] 115)
 (hF:∀ W,Up w W→Gives Tryz.prog g (#[.agg #[.int .i64 (p.1),.int .i64 (p.2)]]++cap) W (.bool F)):Gives Tryz.prog 139 (#[.agg #[.int .i64 p.1,.int .i64 p.2]]++#[.pointer (some ⟨b,0,none⟩)]) w (.bool (!F)):=by
 have c0:=hb.cell 0 rfl
 have lb:=hb.lt
 have HF:=hide hF
 show Gives Tryz.prog 139 #[.agg #[.int .i64 p.1,.int .i64 p.2],.pointer (some ⟨b,0,none⟩)] w (.bool (!F))
 obtain ⟨p1,p2⟩:=p
 dsimp only at HF ⊢
 clear hb hF
 (unfold Gives;go_enter Tryz.func139,Tryz.ntmps139)
 go_wp2
 refine (HF.out _ (by repeat (first|with_reducible (first|exact Up.refl _|apply Up.plus)|apply Up.ext|apply Up.alloc|apply Up.drew|refine Up.setCell ?_ (by simp;try omega) _))).mono ?_
 intro px
 go_wp2
 go_ret
 exact ⟨rfl,(by repeat (first|with_reducible (first|exact Up.refl _|apply Up.plus)|apply Up.ext|apply Up.alloc|apply Up.drew|refine Up.setCell ?_ (by simp;try omega) _))⟩
set_option maxRecDepth 100000 in
theorem wall1_m {m:String} {T:TypeId} {v v':Value} (g:Nat) (hm:∀ (n:Nat) w,(method (n+1) T v m).run Tryz.prog w=.ok (g,v') w) (eg:∀ args w,(callFunc g args).run Tryz.prog w=.ok (.enter g args) w) {p:Int×Int} {F:Bool} {b:Nat} {w:World} (hb:Box w b #[.func (.method m) #[.iface T v] #[]] 115)
 (hF:∀ W,Up w W→Gives Tryz.prog g (#[v']++#[.agg #[.int .i64 (p.1),.int .i64 (p.2)]]) W (.bool F)):Gives Tryz.prog 139 (#[.agg #[.int .i64 p.1,.int .i64 p.2]]++#[.pointer (some ⟨b,0,none⟩)]) w (.bool (!F)):=by
 have c0:=hb.cell 0 rfl
 have lb:=hb.lt
 have HF:=hide hF
 show Gives Tryz.prog 139 #[.agg #[.int .i64 p.1,.int .i64 p.2],.pointer (some ⟨b,0,none⟩)] w (.bool (!F))
 obtain ⟨p1,p2⟩:=p
 dsimp only at HF ⊢
 clear hb hF
 (unfold Gives;go_enter Tryz.func139,Tryz.ntmps139)
 go_wp2
 refine (HF.out _ (by repeat (first|with_reducible (first|exact Up.refl _|apply Up.plus)|apply Up.ext|apply Up.alloc|apply Up.drew|refine Up.setCell ?_ (by simp;try omega) _))).mono ?_
 intro px
 go_wp2
 go_ret
 exact ⟨rfl,(by repeat (first|with_reducible (first|exact Up.refl _|apply Up.plus)|apply Up.ext|apply Up.alloc|apply Up.drew|refine Up.setCell ?_ (by simp;try omega) _))⟩
set_option maxRecDepth 100000 in
set_option maxHeartbeats 2000000 in
theorem wall_any (fn:Fn) (first cap:Array Value) (F:Int×Int→Bool) {a:Ar4} (ha:ABd a) {w:World}
 (h1:∀ p W,p∈cornersA a→Up w W→Box W (w.heap.size+1) #[.func fn first cap] 115→Gives Tryz.prog 139 (#[.agg #[.int .i64 p.1,.int .i64 p.2]]++#[.pointer (some ⟨w.heap.size+1,0,none⟩)]) W (.bool (!F p))) :
 Gives Tryz.prog 96 #[.agg #[.int .i64 (a.1),.int .i64 (a.2.1),.int .i64 (a.2.2.1),.int .i64 (a.2.2.2)],.func fn first cap] w (.bool ((cornersA a).all F)):=by
 have HK:=hide (fun W=>wcorners_any a W)
 have HV:=hide (fun W (hu:Up w W) (hb:Box W (w.heap.size+1) #[.func fn first cap] 115) (b:Nat) (hx:Box W b #[.int .i64 (a.1),.int .i64 (a.2.2.1),.int .i64 (a.1),.int .i64 (a.2.2.2),.int .i64 (a.2.1),.int .i64 (a.2.2.1),.int .i64 (a.2.1),.int .i64 (a.2.2.2)] 219) =>
  anyvec_any 139 #[.pointer (some ⟨w.heap.size+1,0,none⟩)] (enters_of Tryz.func139 (by kernel_rfl) rfl) (fun p=>!F p) (corners_vecs ha hx) (fun p W2 hp hu2=>h1 p W2 hp (hu.trans hu2) (hb.up hu2)))
 rw [all_of_any] at HV
 generalize (cornersA a).all F=R at *
 obtain ⟨x0,x1,y0,y1⟩:=a
 dsimp only at HK HV ⊢
 clear h1 ha
 (unfold Gives;go_enter Tryz.func96,Tryz.ntmps96)
 go_wp2_with fail
 go_at_call 137
 refine (HK.out _).mono ?_
 intro p1
 go_wp2_with fail
 go_at_call 138
 obtain ⟨Q,hQ⟩:∃ T,w.heap.size+1+1+p1.os.size=T:=⟨_,rfl⟩
 try rw [hQ]
 refine forgetK (fun V=>Up w V∧Box V (w.heap.size+1) #[.func fn first cap] 115∧Box V Q #[.int .i64 (x0),.int .i64 (y0),.int .i64 (x0),.int .i64 (y1),.int .i64 (x1),.int .i64 (y0),.int .i64 (x1),.int .i64 (y1)] 219) ⟨(by repeat (first|with_reducible (first|exact Up.refl _|apply Up.plus)|apply Up.ext|apply Up.alloc|apply Up.drew|refine Up.setCell ?_ (by simp;try omega) _)),(by repeat (first|exact Box.mk rfl|(refine Box.mk ?_;simp;done)|apply Box.ext|apply Box.drew|apply Box.alloc|apply Box.two1|refine Box.other ?_ (by omega) _ _)),by rw [← hQ];exact (by repeat (first|exact Box.mk rfl|(refine Box.mk ?_;simp;done)|apply Box.ext|apply Box.drew|apply Box.alloc|apply Box.two1|refine Box.other ?_ (by omega) _ _))⟩ ?_
 rintro V ⟨hu,hb,hx⟩
 refine (HV.out V hu hb Q hx).mono ?_
 intro p2
 go_wp2
 go_ret
 exact ⟨ret_bool (by simp),(by repeat (first|with_reducible exact hu|with_reducible exact Up.refl _|apply Up.ext|apply Up.alloc|apply Up.drew|(refine Up.setCell ?_ (by simp [World.setCell];try omega) _)))⟩
theorem wall_c (g:Nat) (cap:Array Value) (eg:∀ args w,(callFunc g args).run Tryz.prog w=.ok (.enter g args) w) (F:Int×Int→Bool) {a:Ar4} (ha:ABd a) {w:World} (hF:∀ p W,p∈cornersA a→Up w W→Gives Tryz.prog g (#[.agg #[.int .i64 (p.1),.int .i64 (p.2)]]++cap) W (.bool (F p))) :
 Gives Tryz.prog 96 #[.agg #[.int .i64 (a.1),.int .i64 (a.2.1),.int .i64 (a.2.2.1),.int .i64 (a.2.2.2)],.func (.func g) #[] cap] w (.bool ((cornersA a).all F)) :=
 wall_any (.func g) #[] cap F ha fun p _ hp hu hb=>wall1_c g cap eg hb fun W2 hu2=>hF p W2 hp (hu.trans hu2)
theorem wall_m {m:String} {T:TypeId} {v v':Value} (g:Nat) (hm:∀ (n:Nat) w,(method (n+1) T v m).run Tryz.prog w=.ok (g,v') w) (eg:∀ args w,(callFunc g args).run Tryz.prog w=.ok (.enter g args) w) (F:Int×Int→Bool) {a:Ar4} (ha:ABd a) {w:World} (hF:∀ p W,p∈cornersA a→Up w W→Gives Tryz.prog g (#[v']++#[.agg #[.int .i64 (p.1),.int .i64 (p.2)]]) W (.bool (F p))) :
 Gives Tryz.prog 96 #[.agg #[.int .i64 (a.1),.int .i64 (a.2.1),.int .i64 (a.2.2.1),.int .i64 (a.2.2.2)],.func (.method m) #[.iface T v] #[]] w (.bool ((cornersA a).all F)) :=
 wall_any (.method m) #[.iface T v] #[] F ha fun p _ hp hu hb=>wall1_m g hm eg hb fun W2 hu2=>hF p W2 hp (hu.trans hu2)
end Go.Proofs.YteafglginnonnaaGreat
/- Package watch: whether an area may be seen. Conditions: bounds. -/
namespace Go.Proofs.YteafglginnonnaaGreat
open Go.RowKit Go.Shelf
theorem near_bd {k:KndD} {a:Ar4} (ha:ABd a):PBd (nearK k a):=(near_in k ha).bd ha
set_option maxRecDepth 100000 in
theorem wrmay_any {k:KndD} {a:Ar4} (hk:KBd k) (ha:ABd a) (hs:k.sc=false) (w:World):Gives Tryz.prog 292 #[.agg (postA k),.agg #[.int .i64 (a.1),.int .i64 (a.2.1),.int .i64 (a.2.2.1),.int .i64 (a.2.2.2)]] w (.bool (mayK k a)):=by
 have HN:=hide (fun W=>wnearest_any k a W)
 have HR:=hide (fun W=>wreaches_any hk (near_bd (k:=k) ha) W)
 unfold mayK
 rw [hs,Bool.not_false,Bool.true_or,Bool.and_true]
 generalize reachK k (nearK k a)=R at *
 generalize nearK k a=P at *
 obtain ⟨P1,P2⟩:=P
 obtain ⟨x0,x1,y0,y1⟩:=a
 dsimp only at *
 unfold postA at *
 generalize k.wx=wx at *
 generalize k.wy=wy at *
 generalize k.far=fr at *
 generalize k.err=er at *
 clear hk ha hs
 (unfold Gives;go_enter Tryz.func292,Tryz.ntmps292)
 go_wp2_with fail
 ((first | with_reducible refine wp_region_ext2 (by kernel_rfl) (by kernel_rfl) ?_ | refine wp_region_ext (by kernel_rfl) (by kernel_rfl) ?_);(repeat (go_big_quiet_step ((first | (go_at_call 296;exact Gives.inRegion (HN.out _)) | (go_at_call 290;exact Gives.inRegion (HR.out _))))));refine wpQuiet_nil ?_;intro _ hw';obtain ⟨_,hw''⟩:=hw';subst hw'')
 go_wp2
 go_ret
 exact ⟨rfl,(by repeat (first|with_reducible (first|exact Up.refl _|apply Up.plus)|apply Up.ext|apply Up.alloc|apply Up.drew|refine Up.setCell ?_ (by simp;try omega) _))⟩
set_option maxRecDepth 100000 in
theorem wmay1_any {k:KndD} {p:Int×Int} (hk:KBd k) (hp:PBd p) {b:Nat} {w:World} (hb:Box w b (scopeA k) 178):Gives Tryz.prog 301 (#[.agg #[.int .i64 (p.1),.int .i64 (p.2)]]++#[.pointer (some ⟨b,0,none⟩)]) w (.bool (behindK k p)):=by
 have HT:=hide (fun W=>wturns_any hk hp W)
 show Gives Tryz.prog 301 #[.agg #[.int .i64 (p.1),.int .i64 (p.2)],.pointer (some ⟨b,0,none⟩)] w (.bool (behindK k p))
 unfold behindK
 obtain ⟨p1,p2⟩:=p
 dsimp only at *
 generalize crK k (p1,p2)=C at *
 generalize doK k (p1,p2)=D at *
 unfold scopeA at *
 generalize k.wx=wx at *
 generalize k.wy=wy at *
 generalize k.far=fr at *
 generalize k.err=er at *
 generalize k.dx=dx at *
 generalize k.dy=dy at *
 generalize k.lo=lo at *
 generalize k.hi=hi at *
 generalize k.wide=wd at *
 have c0:=hb.cell 0 rfl
 have c1:=hb.cell 1 rfl
 have c2:=hb.cell 2 rfl
 have c3:=hb.cell 3 rfl
 have c4:=hb.cell 4 rfl
 have c5:=hb.cell 5 rfl
 have c6:=hb.cell 6 rfl
 have c7:=hb.cell 7 rfl
 have c8:=hb.cell 8 rfl
 have lb:=hb.lt
 clear hk hp hb
 (unfold Gives;go_enter Tryz.func301,Tryz.ntmps301)
 go_wp2_with (go_at_call 141;refine (HT.out _).mono ?_;intro _)
 go_ret
 exact ⟨rfl,(by repeat (first|with_reducible (first|exact Up.refl _|apply Up.plus)|apply Up.ext|apply Up.alloc|apply Up.drew|refine Up.setCell ?_ (by simp;try omega) _))⟩
set_option maxRecDepth 100000 in
theorem wmay2_any {k:KndD} {p:Int×Int} (hk:KBd k) (hp:PBd p) {b:Nat} {w:World} (hb:Box w b (scopeA k) 178):Gives Tryz.prog 302 (#[.agg #[.int .i64 (p.1),.int .i64 (p.2)]]++#[.pointer (some ⟨b,0,none⟩)]) w (.bool (belowK k p)):=by
 have HT:=hide (fun W=>wturns_any hk hp W)
 show Gives Tryz.prog 302 #[.agg #[.int .i64 (p.1),.int .i64 (p.2)],.pointer (some ⟨b,0,none⟩)] w (.bool (belowK k p))
 unfold belowK
 have hc:=cr_bdK hk hp
 have hd:=wd_bdK hk hp hk.wide.1 hk.wide.2
 have hw:=hk.wide
 have hn:-k.wide*doK k p = -(k.wide*doK k p):=Int.neg_mul _ _
 obtain ⟨p1,p2⟩:=p
 dsimp only at *
 have hc1:=hc.2.2.1
 generalize crK k (p1,p2)=C at *
 generalize doK k (p1,p2)=D at *
 unfold scopeA at *
 generalize k.wx=wx at *
 generalize k.wy=wy at *
 generalize k.far=fr at *
 generalize k.err=er at *
 generalize k.dx=dx at *
 generalize k.dy=dy at *
 generalize k.lo=lo at *
 generalize k.hi=hi at *
 generalize k.wide=wd at *
 have c0:=hb.cell 0 rfl
 have c1:=hb.cell 1 rfl
 have c2:=hb.cell 2 rfl
 have c3:=hb.cell 3 rfl
 have c4:=hb.cell 4 rfl
 have c5:=hb.cell 5 rfl
 have c6:=hb.cell 6 rfl
 have c7:=hb.cell 7 rfl
 have c8:=hb.cell 8 rfl
 have lb:=hb.lt
 have hd1:-558345748480000000 ≤ -wd*D ∧ -wd*D≤558345748480000000:=by omega
 clear hk hp hb hc hn
 (unfold Gives;go_enter Tryz.func302,Tryz.ntmps302)
 go_wp2_with (go_at_call 141;refine (HT.out _).mono ?_;intro _)
 go_ret
 exact ⟨rfl,(by repeat (first|with_reducible (first|exact Up.refl _|apply Up.plus)|apply Up.ext|apply Up.alloc|apply Up.drew|refine Up.setCell ?_ (by simp;try omega) _))⟩
set_option maxRecDepth 100000 in
theorem wmay3_any {k:KndD} {p:Int×Int} (hk:KBd k) (hp:PBd p) {b:Nat} {w:World} (hb:Box w b (scopeA k) 178):Gives Tryz.prog 303 (#[.agg #[.int .i64 (p.1),.int .i64 (p.2)]]++#[.pointer (some ⟨b,0,none⟩)]) w (.bool (aboveK k p)):=by
 have HT:=hide (fun W=>wturns_any hk hp W)
 show Gives Tryz.prog 303 #[.agg #[.int .i64 (p.1),.int .i64 (p.2)],.pointer (some ⟨b,0,none⟩)] w (.bool (aboveK k p))
 unfold aboveK
 have hc:=cr_bdK hk hp
 have hd:=wd_bdK hk hp hk.wide.1 hk.wide.2
 have hw:=hk.wide
 have hn:-k.wide*doK k p = -(k.wide*doK k p):=Int.neg_mul _ _
 obtain ⟨p1,p2⟩:=p
 dsimp only at *
 have hc1:=hc.2.2.1
 generalize crK k (p1,p2)=C at *
 generalize doK k (p1,p2)=D at *
 unfold scopeA at *
 generalize k.wx=wx at *
 generalize k.wy=wy at *
 generalize k.far=fr at *
 generalize k.err=er at *
 generalize k.dx=dx at *
 generalize k.dy=dy at *
 generalize k.lo=lo at *
 generalize k.hi=hi at *
 generalize k.wide=wd at *
 have c0:=hb.cell 0 rfl
 have c1:=hb.cell 1 rfl
 have c2:=hb.cell 2 rfl
 have c3:=hb.cell 3 rfl
 have c4:=hb.cell 4 rfl
 have c5:=hb.cell 5 rfl
 have c6:=hb.cell 6 rfl
 have c7:=hb.cell 7 rfl
 have c8:=hb.cell 8 rfl
 have lb:=hb.lt
 have hd1:-558345748480000000 ≤ -wd*D ∧ -wd*D≤558345748480000000:=by omega
 clear hk hp hb hc hn
 (unfold Gives;go_enter Tryz.func303,Tryz.ntmps303)
 go_wp2_with (go_at_call 141;refine (HT.out _).mono ?_;intro _)
 go_ret
 exact ⟨rfl,(by repeat (first|with_reducible (first|exact Up.refl _|apply Up.plus)|apply Up.ext|apply Up.alloc|apply Up.drew|refine Up.setCell ?_ (by simp;try omega) _))⟩
end Go.Proofs.YteafglginnonnaaGreat
/- Package watch: whether an area may be seen by a scope. Conditions: bounds. -/
namespace Go.Proofs.YteafglginnonnaaGreat
open Go.RowKit Go.Shelf
set_option maxRecDepth 100000 in
set_option maxHeartbeats 1000000 in
theorem wsmay_any {k:KndD} {a:Ar4} (hk:KBd k) (ha:ABd a) (hs:k.sc=true) (w:World):Gives Tryz.prog 298 #[.agg (scopeA k),.agg #[.int .i64 (a.1),.int .i64 (a.2.1),.int .i64 (a.2.2.1),.int .i64 (a.2.2.2)]] w (.bool (mayK k a)):=by
 have HN:=hide (fun W=>wnearest_any k a W)
 have HR:=hide (fun W=>wreaches_any hk (near_bd (k:=k) ha) W)
 have HA1:=hide (fun W (_:Up w W) (hb:Box W w.heap.size (scopeA k) 178)=>wall_c 301 #[.pointer (some ⟨w.heap.size,0,none⟩)] (enters_of Tryz.func301 (by kernel_rfl) rfl) (behindK k) ha (fun p W2 hp hu2=>wmay1_any hk ((corner_in ha p hp).bd ha) (hb.up hu2)))
 have HA2:=hide (fun W (_:Up w W) (hb:Box W w.heap.size (scopeA k) 178)=>wall_c 302 #[.pointer (some ⟨w.heap.size,0,none⟩)] (enters_of Tryz.func302 (by kernel_rfl) rfl) (belowK k) ha (fun p W2 hp hu2=>wmay2_any hk ((corner_in ha p hp).bd ha) (hb.up hu2)))
 have HA3:=hide (fun W (_:Up w W) (hb:Box W w.heap.size (scopeA k) 178)=>wall_c 303 #[.pointer (some ⟨w.heap.size,0,none⟩)] (enters_of Tryz.func303 (by kernel_rfl) rfl) (aboveK k) ha (fun p W2 hp hu2=>wmay3_any hk ((corner_in ha p hp).bd ha) (hb.up hu2)))
 unfold mayK
 rw [hs,Bool.not_true,Bool.false_or]
 generalize reachK k (nearK k a)=R at *
 generalize nearK k a=P at *
 generalize (cornersA a).all (behindK k)=A1 at *
 generalize (cornersA a).all (belowK k)=A2 at *
 generalize (cornersA a).all (aboveK k)=A3 at *
 obtain ⟨P1,P2⟩:=P
 obtain ⟨x0,x1,y0,y1⟩:=a
 dsimp only at *
 unfold postA at *
 unfold scopeA at *
 generalize k.wx=wx at *
 generalize k.wy=wy at *
 generalize k.far=fr at *
 generalize k.err=er at *
 generalize k.dx=dx at *
 generalize k.dy=dy at *
 generalize k.lo=lo at *
 generalize k.hi=hi at *
 generalize k.wide=wd at *
 clear hk ha hs
 cases R
 all_goals try cases A1
 all_goals try cases A2
 all_goals
  (unfold Gives;go_enter Tryz.func298,Tryz.ntmps298)
  go_wp2_with fail
  refine forgetW (fun V=>Up w V∧Box V w.heap.size #[.int .i64 (wx),.int .i64 (wy),.int .i64 (fr),.int .i64 (er),.int .i64 (dx),.int .i64 (dy),.int .i64 (lo),.int .i64 (hi),.int .i64 (wd)] 178∧Box V (w.heap.size+1) #[.int .i64 (x0),.int .i64 (x1),.int .i64 (y0),.int .i64 (y1)] 61) ⟨(by repeat (first|with_reducible (first|exact Up.refl _|apply Up.plus)|apply Up.ext|apply Up.alloc|apply Up.drew|refine Up.setCell ?_ (by simp;try omega) _)),(by repeat (first|exact Box.mk rfl|(refine Box.mk ?_;simp;done)|apply Box.ext|apply Box.drew|apply Box.alloc|apply Box.two1|refine Box.other ?_ (by omega) _ _)),(by repeat (first|exact Box.mk rfl|(refine Box.mk ?_;simp;done)|apply Box.ext|apply Box.drew|apply Box.alloc|apply Box.two1|refine Box.other ?_ (by omega) _ _))⟩ ?_
  rintro V ⟨hu,hb,hx⟩
  have HB:=hide (And.intro hu hb)
  have s0:=hb.cell 0 rfl
  have s1:=hb.cell 1 rfl
  have s2:=hb.cell 2 rfl
  have s3:=hb.cell 3 rfl
  have ls:=hb.lt
  have a0:=hx.cell 0 rfl
  have a1:=hx.cell 1 rfl
  have a2:=hx.cell 2 rfl
  have a3:=hx.cell 3 rfl
  have la:=hx.lt
  clear hu hb hx
  ((first | with_reducible refine wp_region_ext2 (by kernel_rfl) (by kernel_rfl) ?_ | refine wp_region_ext (by kernel_rfl) (by kernel_rfl) ?_);(repeat (go_big_quiet_step ((first | (go_at_call 296;with_reducible exact Gives.inRegion (HN.out _)) | (go_at_call 290;with_reducible exact Gives.inRegion (HR.out _)) | (go_at_call 96;with_reducible exact Gives.inRegion (HA1.out _ (HB.out.1.ext _) (HB.out.2.ext _))) | (go_at_call 96;with_reducible exact Gives.inRegion (HA2.out _ (HB.out.1.ext _) (HB.out.2.ext _))) | (go_at_call 96;with_reducible exact Gives.inRegion (HA3.out _ (HB.out.1.ext _) (HB.out.2.ext _)))))));refine wpQuiet_nil ?_;intro _ hw';obtain ⟨_,hw''⟩:=hw';subst hw'')
  go_wp2
  go_ret
  exact ⟨rfl,(by repeat (first|with_reducible exact HB.out.1|with_reducible exact Up.refl _|apply Up.ext|apply Up.alloc|apply Up.drew|(refine Up.setCell ?_ (by simp [World.setCell];try omega) _)))⟩
end Go.Proofs.YteafglginnonnaaGreat
