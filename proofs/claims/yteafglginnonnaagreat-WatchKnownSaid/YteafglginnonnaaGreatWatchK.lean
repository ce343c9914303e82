/- Several texts in one. -/
import Derived.Test.YteafglginnonnaaGreatSkyE
import Derived.Test.YteafglginnonnaaGreatWatchJ
/- Offers in memory; sets copied and compared; which watches are valid, in plain Lean. Conditions: what lies in memory. -/
namespace Go.Proofs.YteafglginnonnaaGreat
set_option linter.unusedVariables false
set_option linter.unusedSimpArgs false
open Go.RowKit Go.Shelf
def offL (o:OffD):List Value:=[.int .i64 o.kind,.int .i64 o.station,.int .i64 o.catalog,.int .i64 o.tick,.int .i64 o.dx,.int .i64 o.dy,.int .i64 o.err,.int .i64 o.far,.int .i64 o.wide,.int .i64 o.cost,.bool o.sure]
def TOff:Rw OffD:=⟨11,offL,by decide,fun _=>rfl,fun _ u hu=>by unfold offL at hu;simp only [List.mem_cons,List.not_mem_nil,or_false] at hu;rcases hu with rfl | rfl | rfl | rfl | rfl | rfl | rfl | rfl | rfl | rfl | rfl <;> rfl⟩
theorem Offs.at {K:Nat → Prop} {w:World} {a:Option Addr} {n c:Nat} {l:List OffD} (h:Lst TOff K w (.slice a n c) l):n = l.length ∧ n ≤ 9223372036854775807 ∧
 ∀ i,i < n → ∃ b o p,a = some ⟨b,o,none⟩ ∧ K b ∧ b < w.heap.size ∧ l[i]? = some p ∧ w.cell? ⟨b,o + i * 11,none⟩ = some (.int .i64 p.kind) ∧ w.cell? ⟨b,o + i * 11 + 1,none⟩ = some (.int .i64 p.station) ∧ w.cell? ⟨b,o + i * 11 + 2,none⟩ = some (.int .i64 p.catalog) ∧ w.cell? ⟨b,o + i * 11 + 3,none⟩ = some (.int .i64 p.tick) ∧ w.cell? ⟨b,o + i * 11 + 4,none⟩ = some (.int .i64 p.dx) ∧ w.cell? ⟨b,o + i * 11 + 5,none⟩ = some (.int .i64 p.dy) ∧ w.cell? ⟨b,o + i * 11 + 6,none⟩ = some (.int .i64 p.err) ∧ w.cell? ⟨b,o + i * 11 + 7,none⟩ = some (.int .i64 p.far) ∧ w.cell? ⟨b,o + i * 11 + 8,none⟩ = some (.int .i64 p.wide) ∧ w.cell? ⟨b,o + i * 11 + 9,none⟩ = some (.int .i64 p.cost) ∧ w.cell? ⟨b,o + i * 11 + 10,none⟩ = some (.bool p.sure):=by
 obtain ⟨a',c',h1,h2,h3⟩:=h
 simp at h1
 obtain ⟨rfl,rfl,rfl⟩:=h1
 refine ⟨rfl,h2,fun i hi=>?_⟩
 obtain ⟨b,o,rfl,hK,hb,hc⟩:=h3 (by intro e;subst e;simp at hi)
 obtain ⟨vs,rfl,_,hx⟩:=hc i l[i] (List.getElem?_eq_getElem hi)
 exact ⟨b,o,l[i],rfl,hK,hb,List.getElem?_eq_getElem hi,hx 0 _ rfl,hx 1 _ rfl,hx 2 _ rfl,hx 3 _ rfl,hx 4 _ rfl,hx 5 _ rfl,hx 6 _ rfl,hx 7 _ rfl,hx 8 _ rfl,hx 9 _ rfl,hx 10 _ rfl⟩
def offW (s:SkyD) (d:DriftD) (t:Int) (set:List BoxD) (o:OffD):Int :=
 if offE s o = 0 then (if withinB o.tick t (t + 400) = true then (propagateV s.bodies s.home d t (o.tick - t) set).2 else 2) else offE s o
def watchE (s:SkyD) (d:DriftD) (t:Int) (set:List BoxD) (offers:List OffD):Int :=
 if skyE s = 0 then
  (if (propagateV s.bodies s.home d t 0 set).2 = 0 then (if 100 < set.length ∨ 10 < offers.length then 8 else firstE (offW s d t set) offers)
   else (propagateV s.bodies s.home d t 0 set).2)
 else skyE s
theorem prop_tick {bs:List Bod} {home:Int} {d:DriftD} {t m:Int} {l:List BoxD} (h:(propagateV bs home d t m l).2 = 0):worldDE bs home d = 0 ∧ 0 ≤ t ∧ t ≤ 1073741824 ∧ l.length ≤ 512 ∧ (∀ b ∈ l,BOk b):=by
 unfold propagateV at h
 by_cases he:propE bs home d t m l = 0
 · obtain ⟨h1,h2,h3⟩:=propE_zero he
   obtain ⟨h4,h5⟩:=setE_zero h3
   exact ⟨h1,by omega,by omega,h4,h5⟩
 · rw [if_neg he] at h;exact absurd h he
@[go_sem] theorem box_neq (a:BoxD) (w:World):(binOp .neq 69 (.agg (boxA a)) (.agg (boxA a))).run Tryz.prog w = .ok (.bool false) w:=by
 obtain ⟨x0,x1,y0,y1,u0,u1,v0,v1⟩:=a
 simp [go_sem]
end Go.Proofs.YteafglginnonnaaGreat
/- Package watch: the view of an area, the values of a place. Conditions: what lies in memory. -/
namespace Go.Proofs.YteafglginnonnaaGreat
set_option linter.unusedVariables false
set_option linter.unusedSimpArgs false
open Go.RowKit Go.Shelf
set_option maxRecDepth 100000 in
set_option maxHeartbeats 4000000 in
theorem wView_any {K:Nat → Prop} {w:World} {a sa ca:Option Addr} {n c sn sc cn cc:Nat} {s:SkyD} (hL:SkyL K w a n c sa sn sc ca cn cc s) (o:OffD) (x:Ar4):Gives Tryz.prog 21 #[.agg #[.slice a n c,.int .i64 s.home,.slice sa sn sc,.slice ca cn cc],.agg (offA o),.agg #[.int .i64 (x.1),.int .i64 (x.2.1),.int .i64 (x.2.2.1),.int .i64 (x.2.2.2)]] w (.tuple #[.agg (viewA (viewV s o x).1),.int .i64 (viewV s o x).2]):=by
 have HC:=hide (fun W (hu:Up w W)=>wcheck_any (hL.up hu).b hL.h (hL.up hu).st (hL.up hu).ca o)
 have HP:=hide (fun W=>warea_any x W)
 unfold viewV
 by_cases he:offE s o = 0
 rotate_left
 · rw [if_neg he]
   have heb:(offE s o != 0) = true:=by simpa using he
   generalize offE s o = e at *
   generalize s.home = home at *
   clear hL he HP
   obtain ⟨x0,x1,y0,y1⟩:=x
   dsimp only
   (unfold Gives;go_enter Tryz.func21,Tryz.ntmps21)
   go_wp2_with fail
   go_at_call 44
   refine forgetK (fun V=>Up w V ∧ Box V w.heap.size #[.slice a n c,.int .i64 home,.slice sa sn sc,.slice ca cn cc] 29 ∧ Box V (w.heap.size + 1) (offA o) 50 ∧ Box V (w.heap.size + 1 + 1) #[.int .i64 (x0),.int .i64 (x1),.int .i64 (y0),.int .i64 (y1)] 61 ∧ Box V (w.heap.size + 1 + 1 + 1) #[.bool false,.bool false,.int .i64 0,.int .i64 0] 64) ⟨(by repeat (first | with_reducible exact Up.refl _ | with_reducible apply Up.plus | apply Up.ext | apply Up.alloc | apply Up.drew | (refine Up.setCell ?_ (by simp;try omega) _))),(by repeat (first | exact Box.mk rfl | (refine Box.mk ?_;simp;done) | apply Box.ext | apply Box.drew | apply Box.alloc | apply Box.two1 | (refine Box.other ?_ (by omega) _ _))),(by repeat (first | exact Box.mk rfl | (refine Box.mk ?_;simp;done) | apply Box.ext | apply Box.drew | apply Box.alloc | apply Box.two1 | (refine Box.other ?_ (by omega) _ _))),(by repeat (first | exact Box.mk rfl | (refine Box.mk ?_;simp;done) | apply Box.ext | apply Box.drew | apply Box.alloc | apply Box.two1 | (refine Box.other ?_ (by omega) _ _))),(by repeat (first | exact Box.mk rfl | (refine Box.mk ?_;simp;done) | apply Box.ext | apply Box.drew | apply Box.alloc | apply Box.two1 | (refine Box.other ?_ (by omega) _ _)))⟩ ?_
   rintro V ⟨hu,bs,bo,bp,bz⟩
   have HB:=hide (And.intro hu (And.intro bs (And.intro bo (And.intro bp bz))))
   clear hu bs bo bp bz
   refine (HC.out _ HB.out.1).mono ?_
   intro p1
   have s0:=(HB.out.2.1).cell 0 rfl
   have s1:=(HB.out.2.1).cell 1 rfl
   have s2:=(HB.out.2.1).cell 2 rfl
   have s3:=(HB.out.2.1).cell 3 rfl
   have ls:=(HB.out.2.1).lt
   have f0:=(HB.out.2.2.1).cell 0 rfl
   have f1:=(HB.out.2.2.1).cell 1 rfl
   have f2:=(HB.out.2.2.1).cell 2 rfl
   have f3:=(HB.out.2.2.1).cell 3 rfl
   have f4:=(HB.out.2.2.1).cell 4 rfl
   have f5:=(HB.out.2.2.1).cell 5 rfl
   have f6:=(HB.out.2.2.1).cell 6 rfl
   have f7:=(HB.out.2.2.1).cell 7 rfl
   have f8:=(HB.out.2.2.1).cell 8 rfl
   have f9:=(HB.out.2.2.1).cell 9 rfl
   have f10:=(HB.out.2.2.1).cell 10 rfl
   have lf:=(HB.out.2.2.1).lt
   have g0:=(HB.out.2.2.2.1).cell 0 rfl
   have g1:=(HB.out.2.2.2.1).cell 1 rfl
   have g2:=(HB.out.2.2.2.1).cell 2 rfl
   have g3:=(HB.out.2.2.2.1).cell 3 rfl
   have lg:=(HB.out.2.2.2.1).lt
   have z0:=(HB.out.2.2.2.2).cell 0 rfl
   have z1:=(HB.out.2.2.2.2).cell 1 rfl
   have z2:=(HB.out.2.2.2.2).cell 2 rfl
   have z3:=(HB.out.2.2.2.2).cell 3 rfl
   have lz:=(HB.out.2.2.2.2).lt
   have fz0:=(HB.out.2.2.2.2).frozen 0
   have fz1:=(HB.out.2.2.2.2).frozen 1
   have fz2:=(HB.out.2.2.2.2).frozen 2
   have fz3:=(HB.out.2.2.2.2).frozen 3
   go_wp2_with fail
   refine forgetW (fun WF=>Up w WF ∧ Box WF (w.heap.size + 1 + 1 + 1) #[.bool false,.bool false,.int .i64 0,.int .i64 0] 64) ⟨(by repeat (first | with_reducible exact HB.out.1 | with_reducible exact Up.refl _ | with_reducible apply Up.ext | with_reducible apply Up.alloc | with_reducible apply Up.drew | (with_reducible refine Up.setCell ?_ (by simp only;omega) _))),?_⟩ ?_
   · exact (by (repeat (first | with_reducible apply Box.ext | with_reducible apply Box.alloc | with_reducible apply Box.drew));exact ((((HB.out.2.2.2.2.set 0 (.bool false)).set 1 (.bool false)).set 2 (.int .i64 0)).set 3 (.int .i64 0)))
   rintro WF ⟨huF,hbF⟩
   have w0:=hbF.cell 0 rfl
   have w1:=hbF.cell 1 rfl
   have w2:=hbF.cell 2 rfl
   have w3:=hbF.cell 3 rfl
   (refine bodyPost_give huF rfl ⟨_,(by simp [results,Tryz.results21,go_sem,w0,w1,w2,w3];rfl),?_⟩)
   rfl
 have HO:=hide (fun W (hu:Up w W)=>wof_any (hL.up hu).b hL.h (hL.up hu).st (hL.up hu).ca he)
 have hk:=kbd_of he
 rw [if_pos he]
 rw [he] at HC
 by_cases hA:areaB x = true
 rotate_left
 · rw [if_neg hA]
   rw [show areaB x = false by simpa using hA] at HP
   generalize s.home = home at *
   clear hL he hk hA HO
   obtain ⟨x0,x1,y0,y1⟩:=x
   dsimp only at *
   (unfold Gives;go_enter Tryz.func21,Tryz.ntmps21)
   go_wp2_with fail
   go_at_call 44
   refine forgetK (fun V=>Up w V ∧ Box V w.heap.size #[.slice a n c,.int .i64 home,.slice sa sn sc,.slice ca cn cc] 29 ∧ Box V (w.heap.size + 1) (offA o) 50 ∧ Box V (w.heap.size + 1 + 1) #[.int .i64 (x0),.int .i64 (x1),.int .i64 (y0),.int .i64 (y1)] 61 ∧ Box V (w.heap.size + 1 + 1 + 1) #[.bool false,.bool false,.int .i64 0,.int .i64 0] 64) ⟨(by repeat (first | with_reducible exact Up.refl _ | with_reducible apply Up.plus | apply Up.ext | apply Up.alloc | apply Up.drew | (refine Up.setCell ?_ (by simp;try omega) _))),(by repeat (first | exact Box.mk rfl | (refine Box.mk ?_;simp;done) | apply Box.ext | apply Box.drew | apply Box.alloc | apply Box.two1 | (refine Box.other ?_ (by omega) _ _))),(by repeat (first | exact Box.mk rfl | (refine Box.mk ?_;simp;done) | apply Box.ext | apply Box.drew | apply Box.alloc | apply Box.two1 | (refine Box.other ?_ (by omega) _ _))),(by repeat (first | exact Box.mk rfl | (refine Box.mk ?_;simp;done) | apply Box.ext | apply Box.drew | apply Box.alloc | apply Box.two1 | (refine Box.other ?_ (by omega) _ _))),(by repeat (first | exact Box.mk rfl | (refine Box.mk ?_;simp;done) | apply Box.ext | apply Box.drew | apply Box.alloc | apply Box.two1 | (refine Box.other ?_ (by omega) _ _)))⟩ ?_
   rintro V ⟨hu,bs,bo,bp,bz⟩
   have HB:=hide (And.intro hu (And.intro bs (And.intro bo (And.intro bp bz))))
   clear hu bs bo bp bz
   refine (HC.out _ HB.out.1).mono ?_
   intro p1
   have s0:=(HB.out.2.1).cell 0 rfl
   have s1:=(HB.out.2.1).cell 1 rfl
   have s2:=(HB.out.2.1).cell 2 rfl
   have s3:=(HB.out.2.1).cell 3 rfl
   have ls:=(HB.out.2.1).lt
   have f0:=(HB.out.2.2.1).cell 0 rfl
   have f1:=(HB.out.2.2.1).cell 1 rfl
   have f2:=(HB.out.2.2.1).cell 2 rfl
   have f3:=(HB.out.2.2.1).cell 3 rfl
   have f4:=(HB.out.2.2.1).cell 4 rfl
   have f5:=(HB.out.2.2.1).cell 5 rfl
   have f6:=(HB.out.2.2.1).cell 6 rfl
   have f7:=(HB.out.2.2.1).cell 7 rfl
   have f8:=(HB.out.2.2.1).cell 8 rfl
   have f9:=(HB.out.2.2.1).cell 9 rfl
   have f10:=(HB.out.2.2.1).cell 10 rfl
   have lf:=(HB.out.2.2.1).lt
   have g0:=(HB.out.2.2.2.1).cell 0 rfl
   have g1:=(HB.out.2.2.2.1).cell 1 rfl
   have g2:=(HB.out.2.2.2.1).cell 2 rfl
   have g3:=(HB.out.2.2.2.1).cell 3 rfl
   have lg:=(HB.out.2.2.2.1).lt
   have z0:=(HB.out.2.2.2.2).cell 0 rfl
   have z1:=(HB.out.2.2.2.2).cell 1 rfl
   have z2:=(HB.out.2.2.2.2).cell 2 rfl
   have z3:=(HB.out.2.2.2.2).cell 3 rfl
   have lz:=(HB.out.2.2.2.2).lt
   have fz0:=(HB.out.2.2.2.2).frozen 0
   have fz1:=(HB.out.2.2.2.2).frozen 1
   have fz2:=(HB.out.2.2.2.2).frozen 2
   have fz3:=(HB.out.2.2.2.2).frozen 3
   go_wp2_with fail
   go_at_call 51
   refine (HP.out _).mono ?_
   intro p2
   go_wp2_with fail
   refine forgetW (fun WF=>Up w WF ∧ Box WF (w.heap.size + 1 + 1 + 1) #[.bool false,.bool false,.int .i64 0,.int .i64 0] 64) ⟨(by repeat (first | with_reducible exact HB.out.1 | with_reducible exact Up.refl _ | with_reducible apply Up.ext | with_reducible apply Up.alloc | with_reducible apply Up.drew | (with_reducible refine Up.setCell ?_ (by simp only;omega) _))),?_⟩ ?_
   · exact (by (repeat (first | with_reducible apply Box.ext | with_reducible apply Box.alloc | with_reducible apply Box.drew));exact ((((HB.out.2.2.2.2.set 0 (.bool false)).set 1 (.bool false)).set 2 (.int .i64 0)).set 3 (.int .i64 0)))
   rintro WF ⟨huF,hbF⟩
   have w0:=hbF.cell 0 rfl
   have w1:=hbF.cell 1 rfl
   have w2:=hbF.cell 2 rfl
   have w3:=hbF.cell 3 rfl
   (refine bodyPost_give huF rfl ⟨_,(by simp [results,Tryz.results21,go_sem,w0,w1,w2,w3];rfl),?_⟩)
   rfl
 · rw [if_pos hA]
   rw [hA] at HP
   have HV:=hide (fun W=>wview_k hk ((areaB_iff x).1 hA) W)
   generalize viewK (kndOf s o) x = R at *
   generalize kndV (kndOf s o) = KV at *
   generalize s.home = home at *
   clear hL he hk hA
   obtain ⟨x0,x1,y0,y1⟩:=x
   dsimp only at *
   (unfold Gives;go_enter Tryz.func21,Tryz.ntmps21)
   go_wp2_with fail
   go_at_call 44
   refine forgetK (fun V=>Up w V ∧ Box V w.heap.size #[.slice a n c,.int .i64 home,.slice sa sn sc,.slice ca cn cc] 29 ∧ Box V (w.heap.size + 1) (offA o) 50 ∧ Box V (w.heap.size + 1 + 1) #[.int .i64 (x0),.int .i64 (x1),.int .i64 (y0),.int .i64 (y1)] 61 ∧ Box V (w.heap.size + 1 + 1 + 1) #[.bool false,.bool false,.int .i64 0,.int .i64 0] 64) ⟨(by repeat (first | with_reducible exact Up.refl _ | with_reducible apply Up.plus | apply Up.ext | apply Up.alloc | apply Up.drew | (refine Up.setCell ?_ (by simp;try omega) _))),(by repeat (first | exact Box.mk rfl | (refine Box.mk ?_;simp;done) | apply Box.ext | apply Box.drew | apply Box.alloc | apply Box.two1 | (refine Box.other ?_ (by omega) _ _))),(by repeat (first | exact Box.mk rfl | (refine Box.mk ?_;simp;done) | apply Box.ext | apply Box.drew | apply Box.alloc | apply Box.two1 | (refine Box.other ?_ (by omega) _ _))),(by repeat (first | exact Box.mk rfl | (refine Box.mk ?_;simp;done) | apply Box.ext | apply Box.drew | apply Box.alloc | apply Box.two1 | (refine Box.other ?_ (by omega) _ _))),(by repeat (first | exact Box.mk rfl | (refine Box.mk ?_;simp;done) | apply Box.ext | apply Box.drew | apply Box.alloc | apply Box.two1 | (refine Box.other ?_ (by omega) _ _)))⟩ ?_
   rintro V ⟨hu,bs,bo,bp,bz⟩
   have HB:=hide (And.intro hu (And.intro bs (And.intro bo (And.intro bp bz))))
   clear hu bs bo bp bz
   refine (HC.out _ HB.out.1).mono ?_
   intro p1
   have s0:=(HB.out.2.1).cell 0 rfl
   have s1:=(HB.out.2.1).cell 1 rfl
   have s2:=(HB.out.2.1).cell 2 rfl
   have s3:=(HB.out.2.1).cell 3 rfl
   have ls:=(HB.out.2.1).lt
   have f0:=(HB.out.2.2.1).cell 0 rfl
   have f1:=(HB.out.2.2.1).cell 1 rfl
   have f2:=(HB.out.2.2.1).cell 2 rfl
   have f3:=(HB.out.2.2.1).cell 3 rfl
   have f4:=(HB.out.2.2.1).cell 4 rfl
   have f5:=(HB.out.2.2.1).cell 5 rfl
   have f6:=(HB.out.2.2.1).cell 6 rfl
   have f7:=(HB.out.2.2.1).cell 7 rfl
   have f8:=(HB.out.2.2.1).cell 8 rfl
   have f9:=(HB.out.2.2.1).cell 9 rfl
   have f10:=(HB.out.2.2.1).cell 10 rfl
   have lf:=(HB.out.2.2.1).lt
   have g0:=(HB.out.2.2.2.1).cell 0 rfl
   have g1:=(HB.out.2.2.2.1).cell 1 rfl
   have g2:=(HB.out.2.2.2.1).cell 2 rfl
   have g3:=(HB.out.2.2.2.1).cell 3 rfl
   have lg:=(HB.out.2.2.2.1).lt
   have z0:=(HB.out.2.2.2.2).cell 0 rfl
   have z1:=(HB.out.2.2.2.2).cell 1 rfl
   have z2:=(HB.out.2.2.2.2).cell 2 rfl
   have z3:=(HB.out.2.2.2.2).cell 3 rfl
   have lz:=(HB.out.2.2.2.2).lt
   have fz0:=(HB.out.2.2.2.2).frozen 0
   have fz1:=(HB.out.2.2.2.2).frozen 1
   have fz2:=(HB.out.2.2.2.2).frozen 2
   have fz3:=(HB.out.2.2.2.2).frozen 3
   go_wp2_with fail
   go_at_call 51
   refine (HP.out _).mono ?_
   intro p2
   go_wp2_with fail
   refine forgetW (fun V=>Up w V ∧ Box V w.heap.size #[.slice a n c,.int .i64 home,.slice sa sn sc,.slice ca cn cc] 29 ∧ Box V (w.heap.size + 1) (offA o) 50 ∧ Box V (w.heap.size + 1 + 1) #[.int .i64 (x0),.int .i64 (x1),.int .i64 (y0),.int .i64 (y1)] 61 ∧ Box V (w.heap.size + 1 + 1 + 1) #[.bool false,.bool false,.int .i64 0,.int .i64 0] 64) ⟨(by repeat (first | with_reducible exact HB.out.1 | with_reducible exact Up.refl _ | with_reducible apply Up.ext | with_reducible apply Up.alloc | with_reducible apply Up.drew | (with_reducible refine Up.setCell ?_ (by simp only;omega) _))),(by repeat (first | with_reducible exact HB.out.2.1 | with_reducible apply Box.ext | with_reducible apply Box.alloc | with_reducible apply Box.drew | (with_reducible refine Box.other ?_ (by omega) _ _))),(by repeat (first | with_reducible exact HB.out.2.2.1 | with_reducible apply Box.ext | with_reducible apply Box.alloc | with_reducible apply Box.drew | (with_reducible refine Box.other ?_ (by omega) _ _))),(by repeat (first | with_reducible exact HB.out.2.2.2.1 | with_reducible apply Box.ext | with_reducible apply Box.alloc | with_reducible apply Box.drew | (with_reducible refine Box.other ?_ (by omega) _ _))),(by repeat (first | with_reducible exact HB.out.2.2.2.2 | with_reducible apply Box.ext | with_reducible apply Box.alloc | with_reducible apply Box.drew | (with_reducible refine Box.other ?_ (by omega) _ _)))⟩ ?_
   clear HB s0 s1 s2 s3 ls f0 f1 f2 f3 f4 f5 f6 f7 f8 f9 f10 lf g0 g1 g2 g3 lg z0 z1 z2 z3 lz fz0 fz1 fz2 fz3
   rintro V ⟨hu,bs,bo,bp,bz⟩
   have HB:=hide (And.intro hu (And.intro bs (And.intro bo (And.intro bp bz))))
   clear hu bs bo bp bz
   have s0:=(HB.out.2.1).cell 0 rfl
   have s1:=(HB.out.2.1).cell 1 rfl
   have s2:=(HB.out.2.1).cell 2 rfl
   have s3:=(HB.out.2.1).cell 3 rfl
   have ls:=(HB.out.2.1).lt
   have f0:=(HB.out.2.2.1).cell 0 rfl
   have f1:=(HB.out.2.2.1).cell 1 rfl
   have f2:=(HB.out.2.2.1).cell 2 rfl
   have f3:=(HB.out.2.2.1).cell 3 rfl
   have f4:=(HB.out.2.2.1).cell 4 rfl
   have f5:=(HB.out.2.2.1).cell 5 rfl
   have f6:=(HB.out.2.2.1).cell 6 rfl
   have f7:=(HB.out.2.2.1).cell 7 rfl
   have f8:=(HB.out.2.2.1).cell 8 rfl
   have f9:=(HB.out.2.2.1).cell 9 rfl
   have f10:=(HB.out.2.2.1).cell 10 rfl
   have lf:=(HB.out.2.2.1).lt
   have g0:=(HB.out.2.2.2.1).cell 0 rfl
   have g1:=(HB.out.2.2.2.1).cell 1 rfl
   have g2:=(HB.out.2.2.2.1).cell 2 rfl
   have g3:=(HB.out.2.2.2.1).cell 3 rfl
   have lg:=(HB.out.2.2.2.1).lt
   have z0:=(HB.out.2.2.2.2).cell 0 rfl
   have z1:=(HB.out.2.2.2.2).cell 1 rfl
   have z2:=(HB.out.2.2.2.2).cell 2 rfl
   have z3:=(HB.out.2.2.2.2).cell 3 rfl
   have lz:=(HB.out.2.2.2.2).lt
   have fz0:=(HB.out.2.2.2.2).frozen 0
   have fz1:=(HB.out.2.2.2.2).frozen 1
   have fz2:=(HB.out.2.2.2.2).frozen 2
   have fz3:=(HB.out.2.2.2.2).frozen 3
   ((first | with_reducible refine wp_region_ext_tail2 2 (by kernel_rfl) (by kernel_rfl) ?_ | refine wp_region_ext_tail 2 (by kernel_rfl) (by kernel_rfl) ?_);simp only [List.length_cons,List.length_nil,Nat.reduceAdd,Nat.reduceSub,List.take_succ_cons,List.take_zero,List.drop_succ_cons,List.drop_zero];(repeat (go_big_quiet_step ((first | (go_at_call 50;with_reducible exact Gives.inRegion (HO.out _ (HB.out.1.ext _))) | (go_at_call 52;with_reducible exact Gives.inRegion (HV.out _))))));refine wpQuiet_nil ?_;intro _ hw';obtain ⟨_,hw''⟩:=hw';subst hw'')
   go_wp2_with fail
   refine forgetW (fun WF=>Up w WF ∧ Box WF (w.heap.size + 1 + 1 + 1) (viewA R) 64) ⟨(by repeat (first | with_reducible exact HB.out.1 | with_reducible exact Up.refl _ | with_reducible apply Up.ext | with_reducible apply Up.alloc | with_reducible apply Up.drew | (with_reducible refine Up.setCell ?_ (by simp only;omega) _))),?_⟩ ?_
   · exact (by (repeat (first | with_reducible apply Box.ext | with_reducible apply Box.alloc | with_reducible apply Box.drew));exact ((((HB.out.2.2.2.2.set 0 (.bool R.1)).set 1 (.bool R.2.1)).set 2 (.int .i64 R.2.2.1)).set 3 (.int .i64 R.2.2.2)))
   rintro WF ⟨huF,hbF⟩
   have w0:=hbF.cell 0 rfl
   have w1:=hbF.cell 1 rfl
   have w2:=hbF.cell 2 rfl
   have w3:=hbF.cell 3 rfl
   (refine bodyPost_give huF rfl ⟨_,(by simp [results,Tryz.results21,go_sem,w0,w1,w2,w3];rfl),?_⟩)
   rfl
end Go.Proofs.YteafglginnonnaaGreat
