/- Package watch: which offers are valid. Conditions: what lies in memory. -/
import Derived.Test.YteafglginnonnaaGreatSkyE
namespace Go.Proofs.YteafglginnonnaaGreat
set_option linter.unusedVariables false
set_option linter.unusedSimpArgs false
open Go.RowKit Go.Shelf
theorem wwithin_any (n lo hi:Int) (w:World):Gives Tryz.prog 45 #[.int .i64 n,.int .i64 lo,.int .i64 hi] w (.bool (withinB n lo hi)):=by
 unfold withinB
 (unfold Gives;go_enter Tryz.func45,Tryz.ntmps45)
 go_wp2
 all_goals (go_ret;refine ⟨?_,(by repeat (first | with_reducible exact Up.refl _ | with_reducible apply Up.plus | apply Up.ext | apply Up.alloc | apply Up.drew | (refine Up.setCell ?_ (by simp;try omega) _)))⟩)
 all_goals (go_light;first | (simp_all [withinB];done) | (simp_all [withinB];omega) | (simp_all [withinB];repeat' split;all_goals (first | (simp_all;done) | omega | (simp_all;omega))))
abbrev offA (o:OffD):Array Value:=#[.int .i64 o.kind,.int .i64 o.station,.int .i64 o.catalog,.int .i64 o.tick,.int .i64 o.dx,.int .i64 o.dy,.int .i64 o.err,.int .i64 o.far,.int .i64 o.wide,.int .i64 o.cost,.bool o.sure]
def offF (e:Int) (k1 k2 T1 S1 T2 T3 T4 C1 T5 T6 Z T7:Bool):Int :=
 if e ≠ 0 then e else if (k1 || k2) = false then 4 else if T1 = false then 2 else if S1 = false then 7 else if T2 = false then 2 else if T3 = false then 2 else if T4 = false then 2
 else if k2 = true then 0 else if C1 = false then 7 else if T5 = false then 2 else if T6 = false then 2 else if Z = true then 2 else if T7 = false then 2 else 0
theorem offF_eq (s:SkyD) (o:OffD):offF (skyE s) (o.kind == 1) (o.kind == 2) (withinB o.tick 0 1073741824) (s.stations.any fun x=>x.1 == o.station) (withinB o.err 0 500000) (withinB o.far 1 134217728) (withinB o.cost 0 1000)
 (s.catalogs.any fun x=>x.1 == o.catalog) (withinB o.dx (-4096) 4096) (withinB o.dy (-4096) 4096) (o.dx == 0 && o.dy == 0) (withinB o.wide 0 1000000) = offE s o:=by
 unfold offE offE0 offF
 by_cases he:skyE s = 0
 · rw [if_neg (by simp [he]),if_pos he]
   generalize withinB o.tick 0 1073741824 = T1
   generalize (s.stations.any fun x=>x.1 == o.station) = S1
   generalize withinB o.err 0 500000 = T2
   generalize withinB o.far 1 134217728 = T3
   generalize withinB o.cost 0 1000 = T4
   generalize (s.catalogs.any fun x=>x.1 == o.catalog) = C1
   generalize withinB o.dx (-4096) 4096 = T5
   generalize withinB o.dy (-4096) 4096 = T6
   generalize (o.dx == 0 && o.dy == 0) = Z
   generalize withinB o.wide 0 1000000 = T7
   have hk:((o.kind == 1 || o.kind == 2) = false) = (o.kind ≠ 1 ∧ o.kind ≠ 2):=by simp
   have hk2:((o.kind == 2) = true) = (o.kind = 2):=by simp
   simp only [hk,hk2]
   cases T1 <;> cases S1 <;> cases T2 <;> cases T3 <;> cases T4 <;> cases C1 <;> cases T5 <;> cases T6 <;> cases Z <;> cases T7 <;> simp
 · rw [if_pos he,if_neg he]
theorem wco1_any (p:Int × Int × Int) (o:OffD) {b:Nat} {w:World} (hb:Box w b (offA o) 50):Gives Tryz.prog 87 (#[.agg #[.int .i64 p.1,.int .i64 p.2.1,.int .i64 p.2.2]] ++ #[.pointer (some ⟨b,0,none⟩)]) w (.bool (p.1 == o.station)):=by
 have c0:=hb.cell 1 rfl
 have lb:=hb.lt
 show Gives Tryz.prog 87 #[.agg #[.int .i64 p.1,.int .i64 p.2.1,.int .i64 p.2.2],.pointer (some ⟨b,0,none⟩)] w (.bool (p.1 == o.station))
 clear hb
 (unfold Gives;go_enter Tryz.func87,Tryz.ntmps87)
 go_wp2
 go_ret
 exact ⟨rfl,(by repeat (first | with_reducible exact Up.refl _ | with_reducible apply Up.plus | apply Up.ext | apply Up.alloc | apply Up.drew | (refine Up.setCell ?_ (by simp;try omega) _)))⟩
theorem wco2_any (p:Int × Int × Int) (o:OffD) {b:Nat} {w:World} (hb:Box w b (offA o) 50):Gives Tryz.prog 89 (#[.agg #[.int .i64 p.1,.int .i64 p.2.1,.int .i64 p.2.2]] ++ #[.pointer (some ⟨b,0,none⟩)]) w (.bool (p.1 == o.catalog)):=by
 have c0:=hb.cell 2 rfl
 have lb:=hb.lt
 show Gives Tryz.prog 89 #[.agg #[.int .i64 p.1,.int .i64 p.2.1,.int .i64 p.2.2],.pointer (some ⟨b,0,none⟩)] w (.bool (p.1 == o.catalog))
 clear hb
 (unfold Gives;go_enter Tryz.func89,Tryz.ntmps89)
 go_wp2
 go_ret
 exact ⟨rfl,(by repeat (first | with_reducible exact Up.refl _ | with_reducible apply Up.plus | apply Up.ext | apply Up.alloc | apply Up.drew | (refine Up.setCell ?_ (by simp;try omega) _)))⟩
set_option maxRecDepth 100000 in
set_option maxHeartbeats 8000000 in
theorem wcheck_any {K:Nat → Prop} {w:World} {a sa ca:Option Addr} {n c sn sc cn cc:Nat} {s:SkyD} (hb:Bods K w (.slice a n c) s.bodies) (hh:I64 s.home) (hs:Tris K w (.slice sa sn sc) s.stations) (hc:Tris K w (.slice ca cn cc) s.catalogs) (o:OffD) :
 Gives Tryz.prog 44 #[.agg #[.slice a n c,.int .i64 s.home,.slice sa sn sc,.slice ca cn cc],.agg (offA o)] w (.int .i64 (offE s o)):=by
 have HC:=hide (fun W (hu:Up w W)=>skcheck_any (hb.keeps (hu.keeps K)) hh (hs.keeps (hu.keeps K)) (hc.keeps (hu.keeps K)))
 have HS:=hide (fun W (hu:Up w W) (hx:Box W (w.heap.size + 1) (offA o) 50)=>anysta_any 87 #[.pointer (some ⟨w.heap.size + 1,0,none⟩)] (enters_of Tryz.func87 (by kernel_rfl) rfl) (fun x=>x.1 == o.station) (hs.keeps (hu.keeps K)) (fun p W2 _ hu2=>wco1_any p o (hx.up hu2)))
 have HK:=hide (fun W (hu:Up w W) (hx:Box W (w.heap.size + 1) (offA o) 50)=>anycat_any 89 #[.pointer (some ⟨w.heap.size + 1,0,none⟩)] (enters_of Tryz.func89 (by kernel_rfl) rfl) (fun x=>x.1 == o.catalog) (hc.keeps (hu.keeps K)) (fun p W2 _ hu2=>wco2_any p o (hx.up hu2)))
 have HW:=hide (fun n lo hi W=>wwithin_any n lo hi W)
 rw [← offF_eq]
 obtain ⟨kd,st,ct,tk,dx,dy,er,fr,wd,co,su⟩:=o
 dsimp only at HS HK ⊢
 generalize skyE s = e at *
 generalize s.home = home at *
 have HW1:=hide (fun W=>HW.out tk 0 1073741824 W)
 have HW2:=hide (fun W=>HW.out er 0 500000 W)
 have HW3:=hide (fun W=>HW.out fr 1 134217728 W)
 have HW4:=hide (fun W=>HW.out co 0 1000 W)
 have HW5:=hide (fun W=>HW.out dx (-4096) 4096 W)
 have HW6:=hide (fun W=>HW.out dy (-4096) 4096 W)
 have HW7:=hide (fun W=>HW.out wd 0 1000000 W)
 generalize withinB tk 0 1073741824 = T1 at HW1 ⊢
 generalize (s.stations.any fun x=>x.1 == st) = S1 at HS ⊢
 generalize withinB er 0 500000 = T2 at HW2 ⊢
 generalize withinB fr 1 134217728 = T3 at HW3 ⊢
 generalize withinB co 0 1000 = T4 at HW4 ⊢
 generalize (s.catalogs.any fun x=>x.1 == ct) = C1 at HK ⊢
 generalize withinB dx (-4096) 4096 = T5 at HW5 ⊢
 generalize withinB dy (-4096) 4096 = T6 at HW6 ⊢
 generalize withinB wd 0 1000000 = T7 at HW7 ⊢
 clear hb hs hc HW
 (unfold Gives;go_enter Tryz.func44,Tryz.ntmps44)
 go_wp2_with fail
 go_at_call 42
 refine forgetK (fun V=>Up w V ∧ Box V w.heap.size #[.slice a n c,.int .i64 home,.slice sa sn sc,.slice ca cn cc] 29 ∧ Box V (w.heap.size + 1) #[.int .i64 kd,.int .i64 st,.int .i64 ct,.int .i64 tk,.int .i64 dx,.int .i64 dy,.int .i64 er,.int .i64 fr,.int .i64 wd,.int .i64 co,.bool su] 50) ⟨(by repeat (first | with_reducible exact Up.refl _ | with_reducible apply Up.plus | apply Up.ext | apply Up.alloc | apply Up.drew | (refine Up.setCell ?_ (by simp;try omega) _))),(by repeat (first | exact Box.mk rfl | (refine Box.mk ?_;simp;done) | apply Box.ext | apply Box.drew | apply Box.alloc | apply Box.two1 | (refine Box.other ?_ (by omega) _ _))),(by repeat (first | exact Box.mk rfl | (refine Box.mk ?_;simp;done) | apply Box.ext | apply Box.drew | apply Box.alloc | apply Box.two1 | (refine Box.other ?_ (by omega) _ _)))⟩ ?_
 rintro V1 ⟨hu1,bx1,by1⟩
 have HB1:=hide (And.intro hu1 (And.intro bx1 by1))
 refine (HC.out _ hu1).mono ?_
 intro p1
 have x0:=bx1.cell 0 rfl
 have x1:=bx1.cell 1 rfl
 have x2:=bx1.cell 2 rfl
 have x3:=bx1.cell 3 rfl
 have y0:=by1.cell 0 rfl
 have y1:=by1.cell 1 rfl
 have y2:=by1.cell 2 rfl
 have y3:=by1.cell 3 rfl
 have y4:=by1.cell 4 rfl
 have y5:=by1.cell 5 rfl
 have y6:=by1.cell 6 rfl
 have y7:=by1.cell 7 rfl
 have y8:=by1.cell 8 rfl
 have y9:=by1.cell 9 rfl
 have y10:=by1.cell 10 rfl
 have lx:=bx1.lt
 have ly:=by1.lt
 clear hu1 bx1 by1
 by_cases he:e = 0
 rotate_left
 · have heb:(e != 0) = true:=by simp [he]
   replace he:=hide he
   go_wp2
   go_ret
   exact ⟨ret_int (by simp [offF,he.out]),(by repeat (first | with_reducible exact HB1.out.1 | with_reducible exact Up.refl _ | with_reducible apply Up.ext | with_reducible apply Up.alloc | with_reducible apply Up.drew | (with_reducible refine Up.setCell ?_ (by simp only;omega) _)))⟩
 subst he
 by_cases hk:kd ≠ 1 ∧ kd ≠ 2
 · have h1:(kd == 1) = false:=by simp [hk.1]
   have h2:(kd == 2) = false:=by simp [hk.2]
   have h1n:(kd != 1) = true:=by simp [hk.1]
   have h2n:(kd != 2) = true:=by simp [hk.2]
   clear hk
   go_wp2
   go_ret
   exact ⟨ret_int (by simp [offF,h1,h2]),(by repeat (first | with_reducible exact HB1.out.1 | with_reducible exact Up.refl _ | with_reducible apply Up.ext | with_reducible apply Up.alloc | with_reducible apply Up.drew | (with_reducible refine Up.setCell ?_ (by simp only;omega) _)))⟩
 rcases (show kd = 1 ∨ kd = 2 by omega) with rfl | rfl
 · go_wp2_with fail
   go_at_call 45
   refine forgetK (fun V=>Up w V ∧ Box V w.heap.size #[.slice a n c,.int .i64 home,.slice sa sn sc,.slice ca cn cc] 29 ∧ Box V (w.heap.size + 1) #[.int .i64 1,.int .i64 st,.int .i64 ct,.int .i64 tk,.int .i64 dx,.int .i64 dy,.int .i64 er,.int .i64 fr,.int .i64 wd,.int .i64 co,.bool su] 50) ⟨(by repeat (first | with_reducible exact HB1.out.1 | with_reducible exact Up.refl _ | with_reducible apply Up.ext | with_reducible apply Up.alloc | with_reducible apply Up.drew | (with_reducible refine Up.setCell ?_ (by simp only;omega) _))),(by repeat (first | with_reducible exact HB1.out.2.1 | with_reducible apply Box.ext | with_reducible apply Box.alloc | with_reducible apply Box.drew | (with_reducible refine Box.other ?_ (by omega) _ _))),(by repeat (first | with_reducible exact HB1.out.2.2 | with_reducible apply Box.ext | with_reducible apply Box.alloc | with_reducible apply Box.drew | (with_reducible refine Box.other ?_ (by omega) _ _)))⟩ ?_
   rintro V2 ⟨hu2,bx2,by2⟩
   have HB2:=hide (And.intro hu2 (And.intro bx2 by2))
   clear HB1 x0 y0 x1 y1 x2 y2 x3 y3 y4 y5 y6 y7 y8 y9 y10 lx ly
   refine (HW1.out _).mono ?_
   intro p2
   have x0:=bx2.cell 0 rfl
   have x1:=bx2.cell 1 rfl
   have x2:=bx2.cell 2 rfl
   have x3:=bx2.cell 3 rfl
   have y0:=by2.cell 0 rfl
   have y1:=by2.cell 1 rfl
   have y2:=by2.cell 2 rfl
   have y3:=by2.cell 3 rfl
   have y4:=by2.cell 4 rfl
   have y5:=by2.cell 5 rfl
   have y6:=by2.cell 6 rfl
   have y7:=by2.cell 7 rfl
   have y8:=by2.cell 8 rfl
   have y9:=by2.cell 9 rfl
   have y10:=by2.cell 10 rfl
   have lx:=bx2.lt
   have ly:=by2.lt
   clear hu2 bx2 by2
   cases T1
   · go_wp2
     go_ret
     exact ⟨ret_int (by simp [offF]),(by repeat (first | with_reducible exact HB2.out.1 | with_reducible exact Up.refl _ | with_reducible apply Up.ext | with_reducible apply Up.alloc | with_reducible apply Up.drew | (with_reducible refine Up.setCell ?_ (by simp only;omega) _)))⟩
   go_wp2_with fail
   go_at_call 86
   refine forgetK (fun V=>Up w V ∧ Box V w.heap.size #[.slice a n c,.int .i64 home,.slice sa sn sc,.slice ca cn cc] 29 ∧ Box V (w.heap.size + 1) #[.int .i64 1,.int .i64 st,.int .i64 ct,.int .i64 tk,.int .i64 dx,.int .i64 dy,.int .i64 er,.int .i64 fr,.int .i64 wd,.int .i64 co,.bool su] 50) ⟨(by repeat (first | with_reducible exact HB2.out.1 | with_reducible exact Up.refl _ | with_reducible apply Up.ext | with_reducible apply Up.alloc | with_reducible apply Up.drew | (with_reducible refine Up.setCell ?_ (by simp only;omega) _))),(by repeat (first | with_reducible exact HB2.out.2.1 | with_reducible apply Box.ext | with_reducible apply Box.alloc | with_reducible apply Box.drew | (with_reducible refine Box.other ?_ (by omega) _ _))),(by repeat (first | with_reducible exact HB2.out.2.2 | with_reducible apply Box.ext | with_reducible apply Box.alloc | with_reducible apply Box.drew | (with_reducible refine Box.other ?_ (by omega) _ _)))⟩ ?_
   rintro V3 ⟨hu3,bx3,by3⟩
   have HB3:=hide (And.intro hu3 (And.intro bx3 by3))
   clear HB2 x0 y0 x1 y1 x2 y2 x3 y3 y4 y5 y6 y7 y8 y9 y10 lx ly
   refine (HS.out _ hu3 by3).mono ?_
   intro p3
   have x0:=bx3.cell 0 rfl
   have x1:=bx3.cell 1 rfl
   have x2:=bx3.cell 2 rfl
   have x3:=bx3.cell 3 rfl
   have y0:=by3.cell 0 rfl
   have y1:=by3.cell 1 rfl
   have y2:=by3.cell 2 rfl
   have y3:=by3.cell 3 rfl
   have y4:=by3.cell 4 rfl
   have y5:=by3.cell 5 rfl
   have y6:=by3.cell 6 rfl
   have y7:=by3.cell 7 rfl
   have y8:=by3.cell 8 rfl
   have y9:=by3.cell 9 rfl
   have y10:=by3.cell 10 rfl
   have lx:=bx3.lt
   have ly:=by3.lt
   clear hu3 bx3 by3
   cases S1
   · go_wp2
     go_ret
     exact ⟨ret_int (by simp [offF]),(by repeat (first | with_reducible exact HB3.out.1 | with_reducible exact Up.refl _ | with_reducible apply Up.ext | with_reducible apply Up.alloc | with_reducible apply Up.drew | (with_reducible refine Up.setCell ?_ (by simp only;omega) _)))⟩
   go_wp2_with fail
   go_at_call 45
   refine forgetK (fun V=>Up w V ∧ Box V w.heap.size #[.slice a n c,.int .i64 home,.slice sa sn sc,.slice ca cn cc] 29 ∧ Box V (w.heap.size + 1) #[.int .i64 1,.int .i64 st,.int .i64 ct,.int .i64 tk,.int .i64 dx,.int .i64 dy,.int .i64 er,.int .i64 fr,.int .i64 wd,.int .i64 co,.bool su] 50) ⟨(by repeat (first | with_reducible exact HB3.out.1 | with_reducible exact Up.refl _ | with_reducible apply Up.ext | with_reducible apply Up.alloc | with_reducible apply Up.drew | (with_reducible refine Up.setCell ?_ (by simp only;omega) _))),(by repeat (first | with_reducible exact HB3.out.2.1 | with_reducible apply Box.ext | with_reducible apply Box.alloc | with_reducible apply Box.drew | (with_reducible refine Box.other ?_ (by omega) _ _))),(by repeat (first | with_reducible exact HB3.out.2.2 | with_reducible apply Box.ext | with_reducible apply Box.alloc | with_reducible apply Box.drew | (with_reducible refine Box.other ?_ (by omega) _ _)))⟩ ?_
   rintro V4 ⟨hu4,bx4,by4⟩
   have HB4:=hide (And.intro hu4 (And.intro bx4 by4))
   clear HB3 x0 y0 x1 y1 x2 y2 x3 y3 y4 y5 y6 y7 y8 y9 y10 lx ly
   refine (HW2.out _).mono ?_
   intro p4
   have x0:=bx4.cell 0 rfl
   have x1:=bx4.cell 1 rfl
   have x2:=bx4.cell 2 rfl
   have x3:=bx4.cell 3 rfl
   have y0:=by4.cell 0 rfl
   have y1:=by4.cell 1 rfl
   have y2:=by4.cell 2 rfl
   have y3:=by4.cell 3 rfl
   have y4:=by4.cell 4 rfl
   have y5:=by4.cell 5 rfl
   have y6:=by4.cell 6 rfl
   have y7:=by4.cell 7 rfl
   have y8:=by4.cell 8 rfl
   have y9:=by4.cell 9 rfl
   have y10:=by4.cell 10 rfl
   have lx:=bx4.lt
   have ly:=by4.lt
   clear hu4 bx4 by4
   cases T2
   · go_wp2
     go_ret
     exact ⟨ret_int (by simp [offF]),(by repeat (first | with_reducible exact HB4.out.1 | with_reducible exact Up.refl _ | with_reducible apply Up.ext | with_reducible apply Up.alloc | with_reducible apply Up.drew | (with_reducible refine Up.setCell ?_ (by simp only;omega) _)))⟩
   go_wp2_with fail
   go_at_call 45
   refine forgetK (fun V=>Up w V ∧ Box V w.heap.size #[.slice a n c,.int .i64 home,.slice sa sn sc,.slice ca cn cc] 29 ∧ Box V (w.heap.size + 1) #[.int .i64 1,.int .i64 st,.int .i64 ct,.int .i64 tk,.int .i64 dx,.int .i64 dy,.int .i64 er,.int .i64 fr,.int .i64 wd,.int .i64 co,.bool su] 50) ⟨(by repeat (first | with_reducible exact HB4.out.1 | with_reducible exact Up.refl _ | with_reducible apply Up.ext | with_reducible apply Up.alloc | with_reducible apply Up.drew | (with_reducible refine Up.setCell ?_ (by simp only;omega) _))),(by repeat (first | with_reducible exact HB4.out.2.1 | with_reducible apply Box.ext | with_reducible apply Box.alloc | with_reducible apply Box.drew | (with_reducible refine Box.other ?_ (by omega) _ _))),(by repeat (first | with_reducible exact HB4.out.2.2 | with_reducible apply Box.ext | with_reducible apply Box.alloc | with_reducible apply Box.drew | (with_reducible refine Box.other ?_ (by omega) _ _)))⟩ ?_
   rintro V5 ⟨hu5,bx5,by5⟩
   have HB5:=hide (And.intro hu5 (And.intro bx5 by5))
   clear HB4 x0 y0 x1 y1 x2 y2 x3 y3 y4 y5 y6 y7 y8 y9 y10 lx ly
   refine (HW3.out _).mono ?_
   intro p5
   have x0:=bx5.cell 0 rfl
   have x1:=bx5.cell 1 rfl
   have x2:=bx5.cell 2 rfl
   have x3:=bx5.cell 3 rfl
   have y0:=by5.cell 0 rfl
   have y1:=by5.cell 1 rfl
   have y2:=by5.cell 2 rfl
   have y3:=by5.cell 3 rfl
   have y4:=by5.cell 4 rfl
   have y5:=by5.cell 5 rfl
   have y6:=by5.cell 6 rfl
   have y7:=by5.cell 7 rfl
   have y8:=by5.cell 8 rfl
   have y9:=by5.cell 9 rfl
   have y10:=by5.cell 10 rfl
   have lx:=bx5.lt
   have ly:=by5.lt
   clear hu5 bx5 by5
   cases T3
   · go_wp2
     go_ret
     exact ⟨ret_int (by simp [offF]),(by repeat (first | with_reducible exact HB5.out.1 | with_reducible exact Up.refl _ | with_reducible apply Up.ext | with_reducible apply Up.alloc | with_reducible apply Up.drew | (with_reducible refine Up.setCell ?_ (by simp only;omega) _)))⟩
   go_wp2_with fail
   go_at_call 45
   refine forgetK (fun V=>Up w V ∧ Box V w.heap.size #[.slice a n c,.int .i64 home,.slice sa sn sc,.slice ca cn cc] 29 ∧ Box V (w.heap.size + 1) #[.int .i64 1,.int .i64 st,.int .i64 ct,.int .i64 tk,.int .i64 dx,.int .i64 dy,.int .i64 er,.int .i64 fr,.int .i64 wd,.int .i64 co,.bool su] 50) ⟨(by repeat (first | with_reducible exact HB5.out.1 | with_reducible exact Up.refl _ | with_reducible apply Up.ext | with_reducible apply Up.alloc | with_reducible apply Up.drew | (with_reducible refine Up.setCell ?_ (by simp only;omega) _))),(by repeat (first | with_reducible exact HB5.out.2.1 | with_reducible apply Box.ext | with_reducible apply Box.alloc | with_reducible apply Box.drew | (with_reducible refine Box.other ?_ (by omega) _ _))),(by repeat (first | with_reducible exact HB5.out.2.2 | with_reducible apply Box.ext | with_reducible apply Box.alloc | with_reducible apply Box.drew | (with_reducible refine Box.other ?_ (by omega) _ _)))⟩ ?_
   rintro V6 ⟨hu6,bx6,by6⟩
   have HB6:=hide (And.intro hu6 (And.intro bx6 by6))
   clear HB5 x0 y0 x1 y1 x2 y2 x3 y3 y4 y5 y6 y7 y8 y9 y10 lx ly
   refine (HW4.out _).mono ?_
   intro p6
   have x0:=bx6.cell 0 rfl
   have x1:=bx6.cell 1 rfl
   have x2:=bx6.cell 2 rfl
   have x3:=bx6.cell 3 rfl
   have y0:=by6.cell 0 rfl
   have y1:=by6.cell 1 rfl
   have y2:=by6.cell 2 rfl
   have y3:=by6.cell 3 rfl
   have y4:=by6.cell 4 rfl
   have y5:=by6.cell 5 rfl
   have y6:=by6.cell 6 rfl
   have y7:=by6.cell 7 rfl
   have y8:=by6.cell 8 rfl
   have y9:=by6.cell 9 rfl
   have y10:=by6.cell 10 rfl
   have lx:=bx6.lt
   have ly:=by6.lt
   clear hu6 bx6 by6
   cases T4
   · go_wp2
     go_ret
     exact ⟨ret_int (by simp [offF]),(by repeat (first | with_reducible exact HB6.out.1 | with_reducible exact Up.refl _ | with_reducible apply Up.ext | with_reducible apply Up.alloc | with_reducible apply Up.drew | (with_reducible refine Up.setCell ?_ (by simp only;omega) _)))⟩
   go_wp2_with fail
   go_at_call 88
   refine forgetK (fun V=>Up w V ∧ Box V w.heap.size #[.slice a n c,.int .i64 home,.slice sa sn sc,.slice ca cn cc] 29 ∧ Box V (w.heap.size + 1) #[.int .i64 1,.int .i64 st,.int .i64 ct,.int .i64 tk,.int .i64 dx,.int .i64 dy,.int .i64 er,.int .i64 fr,.int .i64 wd,.int .i64 co,.bool su] 50) ⟨(by repeat (first | with_reducible exact HB6.out.1 | with_reducible exact Up.refl _ | with_reducible apply Up.ext | with_reducible apply Up.alloc | with_reducible apply Up.drew | (with_reducible refine Up.setCell ?_ (by simp only;omega) _))),(by repeat (first | with_reducible exact HB6.out.2.1 | with_reducible apply Box.ext | with_reducible apply Box.alloc | with_reducible apply Box.drew | (with_reducible refine Box.other ?_ (by omega) _ _))),(by repeat (first | with_reducible exact HB6.out.2.2 | with_reducible apply Box.ext | with_reducible apply Box.alloc | with_reducible apply Box.drew | (with_reducible refine Box.other ?_ (by omega) _ _)))⟩ ?_
   rintro V7 ⟨hu7,bx7,by7⟩
   have HB7:=hide (And.intro hu7 (And.intro bx7 by7))
   clear HB6 x0 y0 x1 y1 x2 y2 x3 y3 y4 y5 y6 y7 y8 y9 y10 lx ly
   refine (HK.out _ hu7 by7).mono ?_
   intro p7
   have x0:=bx7.cell 0 rfl
   have x1:=bx7.cell 1 rfl
   have x2:=bx7.cell 2 rfl
   have x3:=bx7.cell 3 rfl
   have y0:=by7.cell 0 rfl
   have y1:=by7.cell 1 rfl
   have y2:=by7.cell 2 rfl
   have y3:=by7.cell 3 rfl
   have y4:=by7.cell 4 rfl
   have y5:=by7.cell 5 rfl
   have y6:=by7.cell 6 rfl
   have y7:=by7.cell 7 rfl
   have y8:=by7.cell 8 rfl
   have y9:=by7.cell 9 rfl
   have y10:=by7.cell 10 rfl
   have lx:=bx7.lt
   have ly:=by7.lt
   clear hu7 bx7 by7
   cases C1
   · go_wp2
     go_ret
     exact ⟨ret_int (by simp [offF]),(by repeat (first | with_reducible exact HB7.out.1 | with_reducible exact Up.refl _ | with_reducible apply Up.ext | with_reducible apply Up.alloc | with_reducible apply Up.drew | (with_reducible refine Up.setCell ?_ (by simp only;omega) _)))⟩
   go_wp2_with fail
   go_at_call 45
   refine forgetK (fun V=>Up w V ∧ Box V w.heap.size #[.slice a n c,.int .i64 home,.slice sa sn sc,.slice ca cn cc] 29 ∧ Box V (w.heap.size + 1) #[.int .i64 1,.int .i64 st,.int .i64 ct,.int .i64 tk,.int .i64 dx,.int .i64 dy,.int .i64 er,.int .i64 fr,.int .i64 wd,.int .i64 co,.bool su] 50) ⟨(by repeat (first | with_reducible exact HB7.out.1 | with_reducible exact Up.refl _ | with_reducible apply Up.ext | with_reducible apply Up.alloc | with_reducible apply Up.drew | (with_reducible refine Up.setCell ?_ (by simp only;omega) _))),(by repeat (first | with_reducible exact HB7.out.2.1 | with_reducible apply Box.ext | with_reducible apply Box.alloc | with_reducible apply Box.drew | (with_reducible refine Box.other ?_ (by omega) _ _))),(by repeat (first | with_reducible exact HB7.out.2.2 | with_reducible apply Box.ext | with_reducible apply Box.alloc | with_reducible apply Box.drew | (with_reducible refine Box.other ?_ (by omega) _ _)))⟩ ?_
   rintro V8 ⟨hu8,bx8,by8⟩
   have HB8:=hide (And.intro hu8 (And.intro bx8 by8))
   clear HB7 x0 y0 x1 y1 x2 y2 x3 y3 y4 y5 y6 y7 y8 y9 y10 lx ly
   refine (HW5.out _).mono ?_
   intro p8
   have x0:=bx8.cell 0 rfl
   have x1:=bx8.cell 1 rfl
   have x2:=bx8.cell 2 rfl
   have x3:=bx8.cell 3 rfl
   have y0:=by8.cell 0 rfl
   have y1:=by8.cell 1 rfl
   have y2:=by8.cell 2 rfl
   have y3:=by8.cell 3 rfl
   have y4:=by8.cell 4 rfl
   have y5:=by8.cell 5 rfl
   have y6:=by8.cell 6 rfl
   have y7:=by8.cell 7 rfl
   have y8:=by8.cell 8 rfl
   have y9:=by8.cell 9 rfl
   have y10:=by8.cell 10 rfl
   have lx:=bx8.lt
   have ly:=by8.lt
   clear hu8 bx8 by8
   cases T5
   · go_wp2
     go_ret
     exact ⟨ret_int (by simp [offF]),(by repeat (first | with_reducible exact HB8.out.1 | with_reducible exact Up.refl _ | with_reducible apply Up.ext | with_reducible apply Up.alloc | with_reducible apply Up.drew | (with_reducible refine Up.setCell ?_ (by simp only;omega) _)))⟩
   go_wp2_with fail
   go_at_call 45
   refine forgetK (fun V=>Up w V ∧ Box V w.heap.size #[.slice a n c,.int .i64 home,.slice sa sn sc,.slice ca cn cc] 29 ∧ Box V (w.heap.size + 1) #[.int .i64 1,.int .i64 st,.int .i64 ct,.int .i64 tk,.int .i64 dx,.int .i64 dy,.int .i64 er,.int .i64 fr,.int .i64 wd,.int .i64 co,.bool su] 50) ⟨(by repeat (first | with_reducible exact HB8.out.1 | with_reducible exact Up.refl _ | with_reducible apply Up.ext | with_reducible apply Up.alloc | with_reducible apply Up.drew | (with_reducible refine Up.setCell ?_ (by simp only;omega) _))),(by repeat (first | with_reducible exact HB8.out.2.1 | with_reducible apply Box.ext | with_reducible apply Box.alloc | with_reducible apply Box.drew | (with_reducible refine Box.other ?_ (by omega) _ _))),(by repeat (first | with_reducible exact HB8.out.2.2 | with_reducible apply Box.ext | with_reducible apply Box.alloc | with_reducible apply Box.drew | (with_reducible refine Box.other ?_ (by omega) _ _)))⟩ ?_
   rintro V9 ⟨hu9,bx9,by9⟩
   have HB9:=hide (And.intro hu9 (And.intro bx9 by9))
   clear HB8 x0 y0 x1 y1 x2 y2 x3 y3 y4 y5 y6 y7 y8 y9 y10 lx ly
   refine (HW6.out _).mono ?_
   intro p9
   have x0:=bx9.cell 0 rfl
   have x1:=bx9.cell 1 rfl
   have x2:=bx9.cell 2 rfl
   have x3:=bx9.cell 3 rfl
   have y0:=by9.cell 0 rfl
   have y1:=by9.cell 1 rfl
   have y2:=by9.cell 2 rfl
   have y3:=by9.cell 3 rfl
   have y4:=by9.cell 4 rfl
   have y5:=by9.cell 5 rfl
   have y6:=by9.cell 6 rfl
   have y7:=by9.cell 7 rfl
   have y8:=by9.cell 8 rfl
   have y9:=by9.cell 9 rfl
   have y10:=by9.cell 10 rfl
   have lx:=bx9.lt
   have ly:=by9.lt
   clear hu9 bx9 by9
   cases T6
   · go_wp2
     go_ret
     exact ⟨ret_int (by simp [offF]),(by repeat (first | with_reducible exact HB9.out.1 | with_reducible exact Up.refl _ | with_reducible apply Up.ext | with_reducible apply Up.alloc | with_reducible apply Up.drew | (with_reducible refine Up.setCell ?_ (by simp only;omega) _)))⟩
   by_cases hx:dx = 0
   · subst hx
     by_cases hy:dy = 0
     · subst hy
       go_wp2
       go_ret
       exact ⟨ret_int (by simp [offF]),(by repeat (first | with_reducible exact HB9.out.1 | with_reducible exact Up.refl _ | with_reducible apply Up.ext | with_reducible apply Up.alloc | with_reducible apply Up.drew | (with_reducible refine Up.setCell ?_ (by simp only;omega) _)))⟩
     have hyb:(dy == 0) = false:=by simpa using hy
     go_wp2_with fail
     go_at_call 45
     refine forgetK (fun V=>Up w V ∧ Box V w.heap.size #[.slice a n c,.int .i64 home,.slice sa sn sc,.slice ca cn cc] 29 ∧ Box V (w.heap.size + 1) #[.int .i64 1,.int .i64 st,.int .i64 ct,.int .i64 tk,.int .i64 0,.int .i64 dy,.int .i64 er,.int .i64 fr,.int .i64 wd,.int .i64 co,.bool su] 50) ⟨(by repeat (first | with_reducible exact HB9.out.1 | with_reducible exact Up.refl _ | with_reducible apply Up.ext | with_reducible apply Up.alloc | with_reducible apply Up.drew | (with_reducible refine Up.setCell ?_ (by simp only;omega) _))),(by repeat (first | with_reducible exact HB9.out.2.1 | with_reducible apply Box.ext | with_reducible apply Box.alloc | with_reducible apply Box.drew | (with_reducible refine Box.other ?_ (by omega) _ _))),(by repeat (first | with_reducible exact HB9.out.2.2 | with_reducible apply Box.ext | with_reducible apply Box.alloc | with_reducible apply Box.drew | (with_reducible refine Box.other ?_ (by omega) _ _)))⟩ ?_
     rintro V10 ⟨hu10,bx10,by10⟩
     have HB10:=hide (And.intro hu10 (And.intro bx10 by10))
     clear HB9 x0 y0 x1 y1 x2 y2 x3 y3 y4 y5 y6 y7 y8 y9 y10 lx ly
     refine (HW7.out _).mono ?_
     intro p10
     have x0:=bx10.cell 0 rfl
     have x1:=bx10.cell 1 rfl
     have x2:=bx10.cell 2 rfl
     have x3:=bx10.cell 3 rfl
     have y0:=by10.cell 0 rfl
     have y1:=by10.cell 1 rfl
     have y2:=by10.cell 2 rfl
     have y3:=by10.cell 3 rfl
     have y4:=by10.cell 4 rfl
     have y5:=by10.cell 5 rfl
     have y6:=by10.cell 6 rfl
     have y7:=by10.cell 7 rfl
     have y8:=by10.cell 8 rfl
     have y9:=by10.cell 9 rfl
     have y10:=by10.cell 10 rfl
     have lx:=bx10.lt
     have ly:=by10.lt
     clear hu10 bx10 by10
     cases T7
     · go_wp2
       go_ret
       exact ⟨ret_int (by simp [offF,hyb]),(by repeat (first | with_reducible exact HB10.out.1 | with_reducible exact Up.refl _ | with_reducible apply Up.ext | with_reducible apply Up.alloc | with_reducible apply Up.drew | (with_reducible refine Up.setCell ?_ (by simp only;omega) _)))⟩
     go_wp2
     go_ret
     exact ⟨ret_int (by simp [offF,hyb]),(by repeat (first | with_reducible exact HB10.out.1 | with_reducible exact Up.refl _ | with_reducible apply Up.ext | with_reducible apply Up.alloc | with_reducible apply Up.drew | (with_reducible refine Up.setCell ?_ (by simp only;omega) _)))⟩
   have hxb:(dx == 0) = false:=by simpa using hx
   go_wp2_with fail
   go_at_call 45
   refine forgetK (fun V=>Up w V ∧ Box V w.heap.size #[.slice a n c,.int .i64 home,.slice sa sn sc,.slice ca cn cc] 29 ∧ Box V (w.heap.size + 1) #[.int .i64 1,.int .i64 st,.int .i64 ct,.int .i64 tk,.int .i64 dx,.int .i64 dy,.int .i64 er,.int .i64 fr,.int .i64 wd,.int .i64 co,.bool su] 50) ⟨(by repeat (first | with_reducible exact HB9.out.1 | with_reducible exact Up.refl _ | with_reducible apply Up.ext | with_reducible apply Up.alloc | with_reducible apply Up.drew | (with_reducible refine Up.setCell ?_ (by simp only;omega) _))),(by repeat (first | with_reducible exact HB9.out.2.1 | with_reducible apply Box.ext | with_reducible apply Box.alloc | with_reducible apply Box.drew | (with_reducible refine Box.other ?_ (by omega) _ _))),(by repeat (first | with_reducible exact HB9.out.2.2 | with_reducible apply Box.ext | with_reducible apply Box.alloc | with_reducible apply Box.drew | (with_reducible refine Box.other ?_ (by omega) _ _)))⟩ ?_
   rintro V10 ⟨hu10,bx10,by10⟩
   have HB10:=hide (And.intro hu10 (And.intro bx10 by10))
   clear HB9 x0 y0 x1 y1 x2 y2 x3 y3 y4 y5 y6 y7 y8 y9 y10 lx ly
   refine (HW7.out _).mono ?_
   intro p10
   have x0:=bx10.cell 0 rfl
   have x1:=bx10.cell 1 rfl
   have x2:=bx10.cell 2 rfl
   have x3:=bx10.cell 3 rfl
   have y0:=by10.cell 0 rfl
   have y1:=by10.cell 1 rfl
   have y2:=by10.cell 2 rfl
   have y3:=by10.cell 3 rfl
   have y4:=by10.cell 4 rfl
   have y5:=by10.cell 5 rfl
   have y6:=by10.cell 6 rfl
   have y7:=by10.cell 7 rfl
   have y8:=by10.cell 8 rfl
   have y9:=by10.cell 9 rfl
   have y10:=by10.cell 10 rfl
   have lx:=bx10.lt
   have ly:=by10.lt
   clear hu10 bx10 by10
   cases T7
   · go_wp2
     go_ret
     exact ⟨ret_int (by simp [offF,hxb]),(by repeat (first | with_reducible exact HB10.out.1 | with_reducible exact Up.refl _ | with_reducible apply Up.ext | with_reducible apply Up.alloc | with_reducible apply Up.drew | (with_reducible refine Up.setCell ?_ (by simp only;omega) _)))⟩
   go_wp2
   go_ret
   exact ⟨ret_int (by simp [offF,hxb]),(by repeat (first | with_reducible exact HB10.out.1 | with_reducible exact Up.refl _ | with_reducible apply Up.ext | with_reducible apply Up.alloc | with_reducible apply Up.drew | (with_reducible refine Up.setCell ?_ (by simp only;omega) _)))⟩
 · go_wp2_with fail
   go_at_call 45
   refine forgetK (fun V=>Up w V ∧ Box V w.heap.size #[.slice a n c,.int .i64 home,.slice sa sn sc,.slice ca cn cc] 29 ∧ Box V (w.heap.size + 1) #[.int .i64 2,.int .i64 st,.int .i64 ct,.int .i64 tk,.int .i64 dx,.int .i64 dy,.int .i64 er,.int .i64 fr,.int .i64 wd,.int .i64 co,.bool su] 50) ⟨(by repeat (first | with_reducible exact HB1.out.1 | with_reducible exact Up.refl _ | with_reducible apply Up.ext | with_reducible apply Up.alloc | with_reducible apply Up.drew | (with_reducible refine Up.setCell ?_ (by simp only;omega) _))),(by repeat (first | with_reducible exact HB1.out.2.1 | with_reducible apply Box.ext | with_reducible apply Box.alloc | with_reducible apply Box.drew | (with_reducible refine Box.other ?_ (by omega) _ _))),(by repeat (first | with_reducible exact HB1.out.2.2 | with_reducible apply Box.ext | with_reducible apply Box.alloc | with_reducible apply Box.drew | (with_reducible refine Box.other ?_ (by omega) _ _)))⟩ ?_
   rintro V2 ⟨hu2,bx2,by2⟩
   have HB2:=hide (And.intro hu2 (And.intro bx2 by2))
   clear HB1 x0 y0 x1 y1 x2 y2 x3 y3 y4 y5 y6 y7 y8 y9 y10 lx ly
   refine (HW1.out _).mono ?_
   intro p2
   have x0:=bx2.cell 0 rfl
   have x1:=bx2.cell 1 rfl
   have x2:=bx2.cell 2 rfl
   have x3:=bx2.cell 3 rfl
   have y0:=by2.cell 0 rfl
   have y1:=by2.cell 1 rfl
   have y2:=by2.cell 2 rfl
   have y3:=by2.cell 3 rfl
   have y4:=by2.cell 4 rfl
   have y5:=by2.cell 5 rfl
   have y6:=by2.cell 6 rfl
   have y7:=by2.cell 7 rfl
   have y8:=by2.cell 8 rfl
   have y9:=by2.cell 9 rfl
   have y10:=by2.cell 10 rfl
   have lx:=bx2.lt
   have ly:=by2.lt
   clear hu2 bx2 by2
   cases T1
   · go_wp2
     go_ret
     exact ⟨ret_int (by simp [offF]),(by repeat (first | with_reducible exact HB2.out.1 | with_reducible exact Up.refl _ | with_reducible apply Up.ext | with_reducible apply Up.alloc | with_reducible apply Up.drew | (with_reducible refine Up.setCell ?_ (by simp only;omega) _)))⟩
   go_wp2_with fail
   go_at_call 86
   refine forgetK (fun V=>Up w V ∧ Box V w.heap.size #[.slice a n c,.int .i64 home,.slice sa sn sc,.slice ca cn cc] 29 ∧ Box V (w.heap.size + 1) #[.int .i64 2,.int .i64 st,.int .i64 ct,.int .i64 tk,.int .i64 dx,.int .i64 dy,.int .i64 er,.int .i64 fr,.int .i64 wd,.int .i64 co,.bool su] 50) ⟨(by repeat (first | with_reducible exact HB2.out.1 | with_reducible exact Up.refl _ | with_reducible apply Up.ext | with_reducible apply Up.alloc | with_reducible apply Up.drew | (with_reducible refine Up.setCell ?_ (by simp only;omega) _))),(by repeat (first | with_reducible exact HB2.out.2.1 | with_reducible apply Box.ext | with_reducible apply Box.alloc | with_reducible apply Box.drew | (with_reducible refine Box.other ?_ (by omega) _ _))),(by repeat (first | with_reducible exact HB2.out.2.2 | with_reducible apply Box.ext | with_reducible apply Box.alloc | with_reducible apply Box.drew | (with_reducible refine Box.other ?_ (by omega) _ _)))⟩ ?_
   rintro V3 ⟨hu3,bx3,by3⟩
   have HB3:=hide (And.intro hu3 (And.intro bx3 by3))
   clear HB2 x0 y0 x1 y1 x2 y2 x3 y3 y4 y5 y6 y7 y8 y9 y10 lx ly
   refine (HS.out _ hu3 by3).mono ?_
   intro p3
   have x0:=bx3.cell 0 rfl
   have x1:=bx3.cell 1 rfl
   have x2:=bx3.cell 2 rfl
   have x3:=bx3.cell 3 rfl
   have y0:=by3.cell 0 rfl
   have y1:=by3.cell 1 rfl
   have y2:=by3.cell 2 rfl
   have y3:=by3.cell 3 rfl
   have y4:=by3.cell 4 rfl
   have y5:=by3.cell 5 rfl
   have y6:=by3.cell 6 rfl
   have y7:=by3.cell 7 rfl
   have y8:=by3.cell 8 rfl
   have y9:=by3.cell 9 rfl
   have y10:=by3.cell 10 rfl
   have lx:=bx3.lt
   have ly:=by3.lt
   clear hu3 bx3 by3
   cases S1
   · go_wp2
     go_ret
     exact ⟨ret_int (by simp [offF]),(by repeat (first | with_reducible exact HB3.out.1 | with_reducible exact Up.refl _ | with_reducible apply Up.ext | with_reducible apply Up.alloc | with_reducible apply Up.drew | (with_reducible refine Up.setCell ?_ (by simp only;omega) _)))⟩
   go_wp2_with fail
   go_at_call 45
   refine forgetK (fun V=>Up w V ∧ Box V w.heap.size #[.slice a n c,.int .i64 home,.slice sa sn sc,.slice ca cn cc] 29 ∧ Box V (w.heap.size + 1) #[.int .i64 2,.int .i64 st,.int .i64 ct,.int .i64 tk,.int .i64 dx,.int .i64 dy,.int .i64 er,.int .i64 fr,.int .i64 wd,.int .i64 co,.bool su] 50) ⟨(by repeat (first | with_reducible exact HB3.out.1 | with_reducible exact Up.refl _ | with_reducible apply Up.ext | with_reducible apply Up.alloc | with_reducible apply Up.drew | (with_reducible refine Up.setCell ?_ (by simp only;omega) _))),(by repeat (first | with_reducible exact HB3.out.2.1 | with_reducible apply Box.ext | with_reducible apply Box.alloc | with_reducible apply Box.drew | (with_reducible refine Box.other ?_ (by omega) _ _))),(by repeat (first | with_reducible exact HB3.out.2.2 | with_reducible apply Box.ext | with_reducible apply Box.alloc | with_reducible apply Box.drew | (with_reducible refine Box.other ?_ (by omega) _ _)))⟩ ?_
   rintro V4 ⟨hu4,bx4,by4⟩
   have HB4:=hide (And.intro hu4 (And.intro bx4 by4))
   clear HB3 x0 y0 x1 y1 x2 y2 x3 y3 y4 y5 y6 y7 y8 y9 y10 lx ly
   refine (HW2.out _).mono ?_
   intro p4
   have x0:=bx4.cell 0 rfl
   have x1:=bx4.cell 1 rfl
   have x2:=bx4.cell 2 rfl
   have x3:=bx4.cell 3 rfl
   have y0:=by4.cell 0 rfl
   have y1:=by4.cell 1 rfl
   have y2:=by4.cell 2 rfl
   have y3:=by4.cell 3 rfl
   have y4:=by4.cell 4 rfl
   have y5:=by4.cell 5 rfl
   have y6:=by4.cell 6 rfl
   have y7:=by4.cell 7 rfl
   have y8:=by4.cell 8 rfl
   have y9:=by4.cell 9 rfl
   have y10:=by4.cell 10 rfl
   have lx:=bx4.lt
   have ly:=by4.lt
   clear hu4 bx4 by4
   cases T2
   · go_wp2
     go_ret
     exact ⟨ret_int (by simp [offF]),(by repeat (first | with_reducible exact HB4.out.1 | with_reducible exact Up.refl _ | with_reducible apply Up.ext | with_reducible apply Up.alloc | with_reducible apply Up.drew | (with_reducible refine Up.setCell ?_ (by simp only;omega) _)))⟩
   go_wp2_with fail
   go_at_call 45
   refine forgetK (fun V=>Up w V ∧ Box V w.heap.size #[.slice a n c,.int .i64 home,.slice sa sn sc,.slice ca cn cc] 29 ∧ Box V (w.heap.size + 1) #[.int .i64 2,.int .i64 st,.int .i64 ct,.int .i64 tk,.int .i64 dx,.int .i64 dy,.int .i64 er,.int .i64 fr,.int .i64 wd,.int .i64 co,.bool su] 50) ⟨(by repeat (first | with_reducible exact HB4.out.1 | with_reducible exact Up.refl _ | with_reducible apply Up.ext | with_reducible apply Up.alloc | with_reducible apply Up.drew | (with_reducible refine Up.setCell ?_ (by simp only;omega) _))),(by repeat (first | with_reducible exact HB4.out.2.1 | with_reducible apply Box.ext | with_reducible apply Box.alloc | with_reducible apply Box.drew | (with_reducible refine Box.other ?_ (by omega) _ _))),(by repeat (first | with_reducible exact HB4.out.2.2 | with_reducible apply Box.ext | with_reducible apply Box.alloc | with_reducible apply Box.drew | (with_reducible refine Box.other ?_ (by omega) _ _)))⟩ ?_
   rintro V5 ⟨hu5,bx5,by5⟩
   have HB5:=hide (And.intro hu5 (And.intro bx5 by5))
   clear HB4 x0 y0 x1 y1 x2 y2 x3 y3 y4 y5 y6 y7 y8 y9 y10 lx ly
   refine (HW3.out _).mono ?_
   intro p5
   have x0:=bx5.cell 0 rfl
   have x1:=bx5.cell 1 rfl
   have x2:=bx5.cell 2 rfl
   have x3:=bx5.cell 3 rfl
   have y0:=by5.cell 0 rfl
   have y1:=by5.cell 1 rfl
   have y2:=by5.cell 2 rfl
   have y3:=by5.cell 3 rfl
   have y4:=by5.cell 4 rfl
   have y5:=by5.cell 5 rfl
   have y6:=by5.cell 6 rfl
   have y7:=by5.cell 7 rfl
   have y8:=by5.cell 8 rfl
   have y9:=by5.cell 9 rfl
   have y10:=by5.cell 10 rfl
   have lx:=bx5.lt
   have ly:=by5.lt
   clear hu5 bx5 by5
   cases T3
   · go_wp2
     go_ret
     exact ⟨ret_int (by simp [offF]),(by repeat (first | with_reducible exact HB5.out.1 | with_reducible exact Up.refl _ | with_reducible apply Up.ext | with_reducible apply Up.alloc | with_reducible apply Up.drew | (with_reducible refine Up.setCell ?_ (by simp only;omega) _)))⟩
   go_wp2_with fail
   go_at_call 45
   refine forgetK (fun V=>Up w V ∧ Box V w.heap.size #[.slice a n c,.int .i64 home,.slice sa sn sc,.slice ca cn cc] 29 ∧ Box V (w.heap.size + 1) #[.int .i64 2,.int .i64 st,.int .i64 ct,.int .i64 tk,.int .i64 dx,.int .i64 dy,.int .i64 er,.int .i64 fr,.int .i64 wd,.int .i64 co,.bool su] 50) ⟨(by repeat (first | with_reducible exact HB5.out.1 | with_reducible exact Up.refl _ | with_reducible apply Up.ext | with_reducible apply Up.alloc | with_reducible apply Up.drew | (with_reducible refine Up.setCell ?_ (by simp only;omega) _))),(by repeat (first | with_reducible exact HB5.out.2.1 | with_reducible apply Box.ext | with_reducible apply Box.alloc | with_reducible apply Box.drew | (with_reducible refine Box.other ?_ (by omega) _ _))),(by repeat (first | with_reducible exact HB5.out.2.2 | with_reducible apply Box.ext | with_reducible apply Box.alloc | with_reducible apply Box.drew | (with_reducible refine Box.other ?_ (by omega) _ _)))⟩ ?_
   rintro V6 ⟨hu6,bx6,by6⟩
   have HB6:=hide (And.intro hu6 (And.intro bx6 by6))
   clear HB5 x0 y0 x1 y1 x2 y2 x3 y3 y4 y5 y6 y7 y8 y9 y10 lx ly
   refine (HW4.out _).mono ?_
   intro p6
   have x0:=bx6.cell 0 rfl
   have x1:=bx6.cell 1 rfl
   have x2:=bx6.cell 2 rfl
   have x3:=bx6.cell 3 rfl
   have y0:=by6.cell 0 rfl
   have y1:=by6.cell 1 rfl
   have y2:=by6.cell 2 rfl
   have y3:=by6.cell 3 rfl
   have y4:=by6.cell 4 rfl
   have y5:=by6.cell 5 rfl
   have y6:=by6.cell 6 rfl
   have y7:=by6.cell 7 rfl
   have y8:=by6.cell 8 rfl
   have y9:=by6.cell 9 rfl
   have y10:=by6.cell 10 rfl
   have lx:=bx6.lt
   have ly:=by6.lt
   clear hu6 bx6 by6
   cases T4
   · go_wp2
     go_ret
     exact ⟨ret_int (by simp [offF]),(by repeat (first | with_reducible exact HB6.out.1 | with_reducible exact Up.refl _ | with_reducible apply Up.ext | with_reducible apply Up.alloc | with_reducible apply Up.drew | (with_reducible refine Up.setCell ?_ (by simp only;omega) _)))⟩
   go_wp2
   go_ret
   exact ⟨ret_int (by simp [offF]),(by repeat (first | with_reducible exact HB6.out.1 | with_reducible exact Up.refl _ | with_reducible apply Up.ext | with_reducible apply Up.alloc | with_reducible apply Up.drew | (with_reducible refine Up.setCell ?_ (by simp only;omega) _)))⟩
end Go.Proofs.YteafglginnonnaaGreat
