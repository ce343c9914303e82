/- Several texts in one. -/
import Derived.Test.YteafglginnonnaaGreatRootR
import Derived.Test.YteafglginnonnaaGreatSkyC
import Derived.Test.YteafglginnonnaaGreatModk
import Derived.Test.YteafglginnonnaaGreatWatchJ
import Derived.Test.YteafglginnonnaaGreatWatchF
import Derived.Test.YteafglginnonnaaGreatSkyR
/- Reference bolideref06: numbers, squares, quotients, roots, stations and biases. Conditions: bounds, what lies in memory. -/
namespace Go.Proofs.YteafglginnonnaaGreat
set_option linter.unusedVariables false
set_option linter.unusedSimpArgs false
open Go.RowKit Go.Shelf
end Go.Proofs.YteafglginnonnaaGreat
/- Reference bolideref06: stations, biases. Conditions: what lies in memory. -/
namespace Go.Proofs.YteafglginnonnaaGreat
set_option linter.unusedVariables false
set_option linter.unusedSimpArgs false
open Go.RowKit Go.Shelf
def biasV (l:List (Int × Int × Int)) (v:Int):(Int × Int) × Bool:=match l.find? (fun x=>x.1 == v) with
 | some x=>(x.2,true)
 | none=>((0,0),false)
end Go.Proofs.YteafglginnonnaaGreat
/- Reference bolideref06: the way to a place, slopes, what is in a field. Conditions: a valid offer, bounds. -/
namespace Go.Proofs.YteafglginnonnaaGreat
set_option linter.unusedVariables false
set_option linter.unusedSimpArgs false
open Go.RowKit Go.Shelf
end Go.Proofs.YteafglginnonnaaGreat
/- Reference bolideref06: corners, the nearest place of an area; which areas are valid. Conditions: a valid offer, bounds. -/
namespace Go.Proofs.YteafglginnonnaaGreat
set_option linter.unusedVariables false
set_option linter.unusedSimpArgs false
open Go.RowKit Go.Shelf
def Corn (x0 x1 y0 y1:Int) (w:World) (e:Ending) (W':World):Prop:=∃ (g:Nat) (p:Ext),e = .returned (.slice (some ⟨g,0,none⟩) 4 4) ∧ w.heap.size ≤ g ∧ Box W' g #[.int .i64 (x0),.int .i64 (y0),.int .i64 (x0),.int .i64 (y1),.int .i64 (x1),.int .i64 (y0),.int .i64 (x1),.int .i64 (y1)] 48 ∧ W' = ext w p
end Go.Proofs.YteafglginnonnaaGreat
/- Reference bolideref06: whether an area may be seen. Conditions: a valid offer, bounds. -/
namespace Go.Proofs.YteafglginnonnaaGreat
set_option linter.unusedVariables false
set_option linter.unusedSimpArgs false
open Go.RowKit Go.Shelf
def cnt (f:Int × Int → Bool) (l:List (Int × Int)) (k:Nat):Nat:=(l.take k).countP f
end Go.Proofs.YteafglginnonnaaGreat
/- Plain Lean: the values of an area as the reference builds them, corner by corner. No program. -/
namespace Go.Proofs.YteafglginnonnaaGreat
set_option linter.unusedVariables false
set_option linter.unusedSimpArgs false
open Go.RowKit
def mostU (d:KndD) (a:Ar4) (k:Nat):Int:=((cornersA a).take k).foldl (fun m p=>max m (sqK d p)) 0
def loU (d:KndD) (a:Ar4) (k:Nat):Int:=((cornersA a).take k).foldl (fun m p=>min m (clampS ((slopeK d p).1 - d.hi - d.err))) 1099511627776
def hiU (d:KndD) (a:Ar4) (k:Nat):Int:=((cornersA a).take k).foldl (fun m p=>max m (clampS ((slopeK d p).2 - d.lo + d.err))) (-1099511627776)
end Go.Proofs.YteafglginnonnaaGreat
/- Reference bolideref06: which offers are valid, whether a place is in the field. Conditions: what lies in memory. -/
namespace Go.Proofs.YteafglginnonnaaGreat
set_option linter.unusedVariables false
set_option linter.unusedSimpArgs false
open Go.RowKit Go.Shelf
end Go.Proofs.YteafglginnonnaaGreat
/- Reference bolideref06: the error of an offer in any sky; whether a place is in the field. Conditions: what lies in memory. -/
namespace Go.Proofs.YteafglginnonnaaGreat
set_option linter.unusedVariables false
set_option linter.unusedSimpArgs false
open Go.RowKit Go.Shelf
end Go.Proofs.YteafglginnonnaaGreat
/- What the three laws of layer 6 without a reference say, in plain Lean. No program. -/
namespace Go.Proofs.YteafglginnonnaaGreat
set_option linter.unusedVariables false
set_option linter.unusedSimpArgs false
open Go.RowKit
end Go.Proofs.YteafglginnonnaaGreat
/- Reference bolideref06: what is read of a place. Conditions: a valid offer, bounds. -/
namespace Go.Proofs.YteafglginnonnaaGreat
set_option linter.unusedVariables false
set_option linter.unusedSimpArgs false
open Go.RowKit Go.Shelf
end Go.Proofs.YteafglginnonnaaGreat
/- Reference bolideref06: the values of an area. Conditions: a valid offer, bounds. -/
namespace Go.Proofs.YteafglginnonnaaGreat
set_option linter.unusedVariables false
set_option linter.unusedSimpArgs false
open Go.RowKit Go.Shelf
end Go.Proofs.YteafglginnonnaaGreat
/- Reference bolideref06: the view of an area. Conditions: a valid offer, bounds. -/
namespace Go.Proofs.YteafglginnonnaaGreat
set_option linter.unusedVariables false
set_option linter.unusedSimpArgs false
open Go.RowKit Go.Shelf
def allU {α:Type} (f:α → Bool) (l:List α) (k:Nat):Bool:=(l.take k).all f
end Go.Proofs.YteafglginnonnaaGreat
/- Package watch: whether an offer tells two areas apart. Conditions: what lies in memory. -/
namespace Go.Proofs.YteafglginnonnaaGreat
set_option linter.unusedVariables false
set_option linter.unusedSimpArgs false
open Go.RowKit Go.Shelf
set_option maxRecDepth 100000 in
set_option maxHeartbeats 4000000 in
theorem wApart_any {K:Nat → Prop} {w:World} {a sa ca:Option Addr} {n c sn sc cn cc:Nat} {s:SkyD} (hL:SkyL K w a n c sa sn sc ca cn cc s) (o:OffD) (x y:Ar4):Gives Tryz.prog 22 #[.agg #[.slice a n c,.int .i64 s.home,.slice sa sn sc,.slice ca cn cc],.agg (offA o),.agg #[.int .i64 (x.1),.int .i64 (x.2.1),.int .i64 (x.2.2.1),.int .i64 (x.2.2.2)],.agg #[.int .i64 (y.1),.int .i64 (y.2.1),.int .i64 (y.2.2.1),.int .i64 (y.2.2.2)]] w (.bool (apartV s o x y)):=by
 have H1:=hide (fun W (hu:Up w W)=>wView_any (hL.up hu) o x)
 have H2:=hide (fun W (hu:Up w W)=>wView_any (hL.up hu) o y)
 have HM:=hide (fun W=>wmixed_any (viewV s o x).1 (viewV s o y).1 W)
 unfold apartV
 generalize viewV s o x = A at *
 generalize viewV s o y = B at *
 obtain ⟨⟨A1,A2,A3,A4⟩,e⟩:=A
 obtain ⟨⟨B1,B2,B3,B4⟩,f⟩:=B
 dsimp only at *
 generalize mixedB (A1,A2,A3,A4) (B1,B2,B3,B4) = M at *
 generalize s.home = home at *
 clear hL
 obtain ⟨x0,x1,x2,x3⟩:=x
 obtain ⟨y0,y1,y2,y3⟩:=y
 unfold viewA at *
 dsimp only at *
 by_cases he:e = 0
 rotate_left
 · have heb:(e == 0) = false:=by simpa using he
   rw [decide_eq_false he,Bool.false_and]
   replace he:=hide he
   (unfold Gives;go_enter Tryz.func22,Tryz.ntmps22)
   go_wp2_with fail
   go_at_call 21
   refine forgetK (fun V=>Up w V ∧ Box V w.heap.size #[.slice a n c,.int .i64 home,.slice sa sn sc,.slice ca cn cc] 29 ∧ Box V (w.heap.size + 1) (offA o) 50 ∧ Box V (w.heap.size + 1 + 1) #[.int .i64 (x0),.int .i64 (x1),.int .i64 (x2),.int .i64 (x3)] 61 ∧ Box V (w.heap.size + 1 + 1 + 1) #[.int .i64 (y0),.int .i64 (y1),.int .i64 (y2),.int .i64 (y3)] 61 ∧ True) ⟨(by repeat (first | with_reducible exact Up.refl _ | with_reducible apply Up.plus | apply Up.ext | apply Up.alloc | apply Up.drew | (refine Up.setCell ?_ (by simp;try omega) _))),(by repeat (first | exact Box.mk rfl | (refine Box.mk ?_;simp;done) | apply Box.ext | apply Box.drew | apply Box.alloc | apply Box.two1 | (refine Box.other ?_ (by omega) _ _))),(by repeat (first | exact Box.mk rfl | (refine Box.mk ?_;simp;done) | apply Box.ext | apply Box.drew | apply Box.alloc | apply Box.two1 | (refine Box.other ?_ (by omega) _ _))),(by repeat (first | exact Box.mk rfl | (refine Box.mk ?_;simp;done) | apply Box.ext | apply Box.drew | apply Box.alloc | apply Box.two1 | (refine Box.other ?_ (by omega) _ _))),(by repeat (first | exact Box.mk rfl | (refine Box.mk ?_;simp;done) | apply Box.ext | apply Box.drew | apply Box.alloc | apply Box.two1 | (refine Box.other ?_ (by omega) _ _))),trivial⟩ ?_
   rintro V1 ⟨hu,bs,bo,bx,bb,_⟩
   have HB:=hide (And.intro hu (And.intro bs (And.intro bo (And.intro bx (And.intro bb trivial)))))
   clear hu bs bo bx bb
   refine (H1.out _ HB.out.1).mono ?_
   intro p1
   have s0:=HB.out.2.1.cell 0 rfl
   have s1:=HB.out.2.1.cell 1 rfl
   have s2:=HB.out.2.1.cell 2 rfl
   have s3:=HB.out.2.1.cell 3 rfl
   have ls:=HB.out.2.1.lt
   have f0:=HB.out.2.2.1.cell 0 rfl
   have f1:=HB.out.2.2.1.cell 1 rfl
   have f2:=HB.out.2.2.1.cell 2 rfl
   have f3:=HB.out.2.2.1.cell 3 rfl
   have f4:=HB.out.2.2.1.cell 4 rfl
   have f5:=HB.out.2.2.1.cell 5 rfl
   have f6:=HB.out.2.2.1.cell 6 rfl
   have f7:=HB.out.2.2.1.cell 7 rfl
   have f8:=HB.out.2.2.1.cell 8 rfl
   have f9:=HB.out.2.2.1.cell 9 rfl
   have f10:=HB.out.2.2.1.cell 10 rfl
   have lf:=HB.out.2.2.1.lt
   have g0:=HB.out.2.2.2.1.cell 0 rfl
   have g1:=HB.out.2.2.2.1.cell 1 rfl
   have g2:=HB.out.2.2.2.1.cell 2 rfl
   have g3:=HB.out.2.2.2.1.cell 3 rfl
   have lg:=HB.out.2.2.2.1.lt
   have k0:=HB.out.2.2.2.2.1.cell 0 rfl
   have k1:=HB.out.2.2.2.2.1.cell 1 rfl
   have k2:=HB.out.2.2.2.2.1.cell 2 rfl
   have k3:=HB.out.2.2.2.2.1.cell 3 rfl
   have lk:=HB.out.2.2.2.2.1.lt
   obtain ⟨Q9,hQ9⟩:∃ T,V1.heap.size + p1.os.size = T:=⟨_,rfl⟩
   go_wp2_with fail
   go_at_call 21
   try rw [hQ9]
   refine forgetK (fun V=>Up w V ∧ Box V w.heap.size #[.slice a n c,.int .i64 home,.slice sa sn sc,.slice ca cn cc] 29 ∧ Box V (w.heap.size + 1) (offA o) 50 ∧ Box V (w.heap.size + 1 + 1) #[.int .i64 (x0),.int .i64 (x1),.int .i64 (x2),.int .i64 (x3)] 61 ∧ Box V (w.heap.size + 1 + 1 + 1) #[.int .i64 (y0),.int .i64 (y1),.int .i64 (y2),.int .i64 (y3)] 61 ∧ Box V Q9 #[.bool A1,.bool A2,.int .i64 A3,.int .i64 A4] 64) ⟨(by repeat (first | with_reducible exact HB.out.1 | with_reducible exact Up.refl _ | with_reducible apply Up.ext | with_reducible apply Up.alloc | with_reducible apply Up.drew | (with_reducible refine Up.setCell ?_ (by simp only;omega) _))),(by repeat (first | with_reducible exact HB.out.2.1 | with_reducible apply Box.ext | with_reducible apply Box.alloc | with_reducible apply Box.drew | (with_reducible refine Box.other ?_ (by omega) _ _))),(by repeat (first | with_reducible exact HB.out.2.2.1 | with_reducible apply Box.ext | with_reducible apply Box.alloc | with_reducible apply Box.drew | (with_reducible refine Box.other ?_ (by omega) _ _))),(by repeat (first | with_reducible exact HB.out.2.2.2.1 | with_reducible apply Box.ext | with_reducible apply Box.alloc | with_reducible apply Box.drew | (with_reducible refine Box.other ?_ (by omega) _ _))),(by repeat (first | with_reducible exact HB.out.2.2.2.2.1 | with_reducible apply Box.ext | with_reducible apply Box.alloc | with_reducible apply Box.drew | (with_reducible refine Box.other ?_ (by omega) _ _))),by rw [← hQ9];exact (by repeat (first | exact Box.mk rfl | (refine Box.mk ?_;simp;done) | apply Box.ext | apply Box.drew | apply Box.alloc | apply Box.two1 | (refine Box.other ?_ (by omega) _ _)))⟩ ?_
   clear HB hQ9 s0 s1 s2 s3 ls f0 f1 f2 f3 f4 f5 f6 f7 f8 f9 f10 lf g0 g1 g2 g3 lg k0 k1 k2 k3 lk
   rintro V2 ⟨hu,bs,bo,bx,bb,b9⟩
   have HB:=hide (And.intro hu b9)
   clear bs bo bx bb
   refine (H2.out _ hu).mono ?_
   intro p2
   have m0:=b9.cell 0 rfl
   have m1:=b9.cell 1 rfl
   have m2:=b9.cell 2 rfl
   have m3:=b9.cell 3 rfl
   have lm:=b9.lt
   clear hu b9
   go_wp2
   go_ret
   exact ⟨rfl,(by repeat (first | with_reducible exact HB.out.1 | with_reducible exact Up.refl _ | apply Up.ext | apply Up.alloc | apply Up.drew | (refine Up.setCell ?_ (by simp [World.setCell];try omega) _)))⟩
 subst he
 by_cases hf:f = 0
 rotate_left
 · have hfb:(f == 0) = false:=by simpa using hf
   rw [decide_eq_true rfl,Bool.true_and,decide_eq_false hf,Bool.false_and]
   replace hf:=hide hf
   (unfold Gives;go_enter Tryz.func22,Tryz.ntmps22)
   go_wp2_with fail
   go_at_call 21
   refine forgetK (fun V=>Up w V ∧ Box V w.heap.size #[.slice a n c,.int .i64 home,.slice sa sn sc,.slice ca cn cc] 29 ∧ Box V (w.heap.size + 1) (offA o) 50 ∧ Box V (w.heap.size + 1 + 1) #[.int .i64 (x0),.int .i64 (x1),.int .i64 (x2),.int .i64 (x3)] 61 ∧ Box V (w.heap.size + 1 + 1 + 1) #[.int .i64 (y0),.int .i64 (y1),.int .i64 (y2),.int .i64 (y3)] 61 ∧ True) ⟨(by repeat (first | with_reducible exact Up.refl _ | with_reducible apply Up.plus | apply Up.ext | apply Up.alloc | apply Up.drew | (refine Up.setCell ?_ (by simp;try omega) _))),(by repeat (first | exact Box.mk rfl | (refine Box.mk ?_;simp;done) | apply Box.ext | apply Box.drew | apply Box.alloc | apply Box.two1 | (refine Box.other ?_ (by omega) _ _))),(by repeat (first | exact Box.mk rfl | (refine Box.mk ?_;simp;done) | apply Box.ext | apply Box.drew | apply Box.alloc | apply Box.two1 | (refine Box.other ?_ (by omega) _ _))),(by repeat (first | exact Box.mk rfl | (refine Box.mk ?_;simp;done) | apply Box.ext | apply Box.drew | apply Box.alloc | apply Box.two1 | (refine Box.other ?_ (by omega) _ _))),(by repeat (first | exact Box.mk rfl | (refine Box.mk ?_;simp;done) | apply Box.ext | apply Box.drew | apply Box.alloc | apply Box.two1 | (refine Box.other ?_ (by omega) _ _))),trivial⟩ ?_
   rintro V1 ⟨hu,bs,bo,bx,bb,_⟩
   have HB:=hide (And.intro hu (And.intro bs (And.intro bo (And.intro bx (And.intro bb trivial)))))
   clear hu bs bo bx bb
   refine (H1.out _ HB.out.1).mono ?_
   intro p1
   have s0:=HB.out.2.1.cell 0 rfl
   have s1:=HB.out.2.1.cell 1 rfl
   have s2:=HB.out.2.1.cell 2 rfl
   have s3:=HB.out.2.1.cell 3 rfl
   have ls:=HB.out.2.1.lt
   have f0:=HB.out.2.2.1.cell 0 rfl
   have f1:=HB.out.2.2.1.cell 1 rfl
   have f2:=HB.out.2.2.1.cell 2 rfl
   have f3:=HB.out.2.2.1.cell 3 rfl
   have f4:=HB.out.2.2.1.cell 4 rfl
   have f5:=HB.out.2.2.1.cell 5 rfl
   have f6:=HB.out.2.2.1.cell 6 rfl
   have f7:=HB.out.2.2.1.cell 7 rfl
   have f8:=HB.out.2.2.1.cell 8 rfl
   have f9:=HB.out.2.2.1.cell 9 rfl
   have f10:=HB.out.2.2.1.cell 10 rfl
   have lf:=HB.out.2.2.1.lt
   have g0:=HB.out.2.2.2.1.cell 0 rfl
   have g1:=HB.out.2.2.2.1.cell 1 rfl
   have g2:=HB.out.2.2.2.1.cell 2 rfl
   have g3:=HB.out.2.2.2.1.cell 3 rfl
   have lg:=HB.out.2.2.2.1.lt
   have k0:=HB.out.2.2.2.2.1.cell 0 rfl
   have k1:=HB.out.2.2.2.2.1.cell 1 rfl
   have k2:=HB.out.2.2.2.2.1.cell 2 rfl
   have k3:=HB.out.2.2.2.2.1.cell 3 rfl
   have lk:=HB.out.2.2.2.2.1.lt
   obtain ⟨Q9,hQ9⟩:∃ T,V1.heap.size + p1.os.size = T:=⟨_,rfl⟩
   go_wp2_with fail
   go_at_call 21
   try rw [hQ9]
   refine forgetK (fun V=>Up w V ∧ Box V w.heap.size #[.slice a n c,.int .i64 home,.slice sa sn sc,.slice ca cn cc] 29 ∧ Box V (w.heap.size + 1) (offA o) 50 ∧ Box V (w.heap.size + 1 + 1) #[.int .i64 (x0),.int .i64 (x1),.int .i64 (x2),.int .i64 (x3)] 61 ∧ Box V (w.heap.size + 1 + 1 + 1) #[.int .i64 (y0),.int .i64 (y1),.int .i64 (y2),.int .i64 (y3)] 61 ∧ Box V Q9 #[.bool A1,.bool A2,.int .i64 A3,.int .i64 A4] 64) ⟨(by repeat (first | with_reducible exact HB.out.1 | with_reducible exact Up.refl _ | with_reducible apply Up.ext | with_reducible apply Up.alloc | with_reducible apply Up.drew | (with_reducible refine Up.setCell ?_ (by simp only;omega) _))),(by repeat (first | with_reducible exact HB.out.2.1 | with_reducible apply Box.ext | with_reducible apply Box.alloc | with_reducible apply Box.drew | (with_reducible refine Box.other ?_ (by omega) _ _))),(by repeat (first | with_reducible exact HB.out.2.2.1 | with_reducible apply Box.ext | with_reducible apply Box.alloc | with_reducible apply Box.drew | (with_reducible refine Box.other ?_ (by omega) _ _))),(by repeat (first | with_reducible exact HB.out.2.2.2.1 | with_reducible apply Box.ext | with_reducible apply Box.alloc | with_reducible apply Box.drew | (with_reducible refine Box.other ?_ (by omega) _ _))),(by repeat (first | with_reducible exact HB.out.2.2.2.2.1 | with_reducible apply Box.ext | with_reducible apply Box.alloc | with_reducible apply Box.drew | (with_reducible refine Box.other ?_ (by omega) _ _))),by rw [← hQ9];exact (by repeat (first | exact Box.mk rfl | (refine Box.mk ?_;simp;done) | apply Box.ext | apply Box.drew | apply Box.alloc | apply Box.two1 | (refine Box.other ?_ (by omega) _ _)))⟩ ?_
   clear HB hQ9 s0 s1 s2 s3 ls f0 f1 f2 f3 f4 f5 f6 f7 f8 f9 f10 lf g0 g1 g2 g3 lg k0 k1 k2 k3 lk
   rintro V2 ⟨hu,bs,bo,bx,bb,b9⟩
   have HB:=hide (And.intro hu b9)
   clear bs bo bx bb
   refine (H2.out _ hu).mono ?_
   intro p2
   have m0:=b9.cell 0 rfl
   have m1:=b9.cell 1 rfl
   have m2:=b9.cell 2 rfl
   have m3:=b9.cell 3 rfl
   have lm:=b9.lt
   clear hu b9
   go_wp2
   go_ret
   exact ⟨rfl,(by repeat (first | with_reducible exact HB.out.1 | with_reducible exact Up.refl _ | apply Up.ext | apply Up.alloc | apply Up.drew | (refine Up.setCell ?_ (by simp [World.setCell];try omega) _)))⟩
 subst hf
 rw [decide_eq_true (rfl:(0:Int) = 0),Bool.true_and,Bool.true_and]
 (unfold Gives;go_enter Tryz.func22,Tryz.ntmps22)
 go_wp2_with fail
 go_at_call 21
 refine forgetK (fun V=>Up w V ∧ Box V w.heap.size #[.slice a n c,.int .i64 home,.slice sa sn sc,.slice ca cn cc] 29 ∧ Box V (w.heap.size + 1) (offA o) 50 ∧ Box V (w.heap.size + 1 + 1) #[.int .i64 (x0),.int .i64 (x1),.int .i64 (x2),.int .i64 (x3)] 61 ∧ Box V (w.heap.size + 1 + 1 + 1) #[.int .i64 (y0),.int .i64 (y1),.int .i64 (y2),.int .i64 (y3)] 61 ∧ True) ⟨(by repeat (first | with_reducible exact Up.refl _ | with_reducible apply Up.plus | apply Up.ext | apply Up.alloc | apply Up.drew | (refine Up.setCell ?_ (by simp;try omega) _))),(by repeat (first | exact Box.mk rfl | (refine Box.mk ?_;simp;done) | apply Box.ext | apply Box.drew | apply Box.alloc | apply Box.two1 | (refine Box.other ?_ (by omega) _ _))),(by repeat (first | exact Box.mk rfl | (refine Box.mk ?_;simp;done) | apply Box.ext | apply Box.drew | apply Box.alloc | apply Box.two1 | (refine Box.other ?_ (by omega) _ _))),(by repeat (first | exact Box.mk rfl | (refine Box.mk ?_;simp;done) | apply Box.ext | apply Box.drew | apply Box.alloc | apply Box.two1 | (refine Box.other ?_ (by omega) _ _))),(by repeat (first | exact Box.mk rfl | (refine Box.mk ?_;simp;done) | apply Box.ext | apply Box.drew | apply Box.alloc | apply Box.two1 | (refine Box.other ?_ (by omega) _ _))),trivial⟩ ?_
 rintro V1 ⟨hu,bs,bo,bx,bb,_⟩
 have HB:=hide (And.intro hu (And.intro bs (And.intro bo (And.intro bx (And.intro bb trivial)))))
 clear hu bs bo bx bb
 refine (H1.out _ HB.out.1).mono ?_
 intro p1
 have s0:=HB.out.2.1.cell 0 rfl
 have s1:=HB.out.2.1.cell 1 rfl
 have s2:=HB.out.2.1.cell 2 rfl
 have s3:=HB.out.2.1.cell 3 rfl
 have ls:=HB.out.2.1.lt
 have f0:=HB.out.2.2.1.cell 0 rfl
 have f1:=HB.out.2.2.1.cell 1 rfl
 have f2:=HB.out.2.2.1.cell 2 rfl
 have f3:=HB.out.2.2.1.cell 3 rfl
 have f4:=HB.out.2.2.1.cell 4 rfl
 have f5:=HB.out.2.2.1.cell 5 rfl
 have f6:=HB.out.2.2.1.cell 6 rfl
 have f7:=HB.out.2.2.1.cell 7 rfl
 have f8:=HB.out.2.2.1.cell 8 rfl
 have f9:=HB.out.2.2.1.cell 9 rfl
 have f10:=HB.out.2.2.1.cell 10 rfl
 have lf:=HB.out.2.2.1.lt
 have g0:=HB.out.2.2.2.1.cell 0 rfl
 have g1:=HB.out.2.2.2.1.cell 1 rfl
 have g2:=HB.out.2.2.2.1.cell 2 rfl
 have g3:=HB.out.2.2.2.1.cell 3 rfl
 have lg:=HB.out.2.2.2.1.lt
 have k0:=HB.out.2.2.2.2.1.cell 0 rfl
 have k1:=HB.out.2.2.2.2.1.cell 1 rfl
 have k2:=HB.out.2.2.2.2.1.cell 2 rfl
 have k3:=HB.out.2.2.2.2.1.cell 3 rfl
 have lk:=HB.out.2.2.2.2.1.lt
 obtain ⟨Q9,hQ9⟩:∃ T,V1.heap.size + p1.os.size = T:=⟨_,rfl⟩
 go_wp2_with fail
 go_at_call 21
 try rw [hQ9]
 refine forgetK (fun V=>Up w V ∧ Box V w.heap.size #[.slice a n c,.int .i64 home,.slice sa sn sc,.slice ca cn cc] 29 ∧ Box V (w.heap.size + 1) (offA o) 50 ∧ Box V (w.heap.size + 1 + 1) #[.int .i64 (x0),.int .i64 (x1),.int .i64 (x2),.int .i64 (x3)] 61 ∧ Box V (w.heap.size + 1 + 1 + 1) #[.int .i64 (y0),.int .i64 (y1),.int .i64 (y2),.int .i64 (y3)] 61 ∧ Box V Q9 #[.bool A1,.bool A2,.int .i64 A3,.int .i64 A4] 64) ⟨(by repeat (first | with_reducible exact HB.out.1 | with_reducible exact Up.refl _ | with_reducible apply Up.ext | with_reducible apply Up.alloc | with_reducible apply Up.drew | (with_reducible refine Up.setCell ?_ (by simp only;omega) _))),(by repeat (first | with_reducible exact HB.out.2.1 | with_reducible apply Box.ext | with_reducible apply Box.alloc | with_reducible apply Box.drew | (with_reducible refine Box.other ?_ (by omega) _ _))),(by repeat (first | with_reducible exact HB.out.2.2.1 | with_reducible apply Box.ext | with_reducible apply Box.alloc | with_reducible apply Box.drew | (with_reducible refine Box.other ?_ (by omega) _ _))),(by repeat (first | with_reducible exact HB.out.2.2.2.1 | with_reducible apply Box.ext | with_reducible apply Box.alloc | with_reducible apply Box.drew | (with_reducible refine Box.other ?_ (by omega) _ _))),(by repeat (first | with_reducible exact HB.out.2.2.2.2.1 | with_reducible apply Box.ext | with_reducible apply Box.alloc | with_reducible apply Box.drew | (with_reducible refine Box.other ?_ (by omega) _ _))),by rw [← hQ9];exact (by repeat (first | exact Box.mk rfl | (refine Box.mk ?_;simp;done) | apply Box.ext | apply Box.drew | apply Box.alloc | apply Box.two1 | (refine Box.other ?_ (by omega) _ _)))⟩ ?_
 clear HB hQ9 s0 s1 s2 s3 ls f0 f1 f2 f3 f4 f5 f6 f7 f8 f9 f10 lf g0 g1 g2 g3 lg k0 k1 k2 k3 lk
 rintro V2 ⟨hu,bs,bo,bx,bb,b9⟩
 have HB:=hide (And.intro hu b9)
 clear bs bo bx bb
 refine (H2.out _ hu).mono ?_
 intro p2
 have m0:=b9.cell 0 rfl
 have m1:=b9.cell 1 rfl
 have m2:=b9.cell 2 rfl
 have m3:=b9.cell 3 rfl
 have lm:=b9.lt
 clear hu b9
 go_wp2_with fail
 go_at_call 53
 refine (HM.out _).mono ?_
 intro p3
 go_wp2
 go_ret
 exact ⟨rfl,(by repeat (first | with_reducible exact HB.out.1 | with_reducible exact Up.refl _ | apply Up.ext | apply Up.alloc | apply Up.drew | (refine Up.setCell ?_ (by simp [World.setCell];try omega) _)))⟩
end Go.Proofs.YteafglginnonnaaGreat
/- Reference bolideref06: whether two areas can be mixed up, by their views. No conditions. -/
namespace Go.Proofs.YteafglginnonnaaGreat
set_option linter.unusedVariables false
set_option linter.unusedSimpArgs false
open Go.RowKit Go.Shelf
def mix2 (x y:Bool × Bool × Int × Int):Bool:=(x.1 && (y.1 && (decide (x.2.2.1 ≤ y.2.2.2) && decide (y.2.2.1 ≤ x.2.2.2)))) || (!x.2.1 && !y.2.1)
end Go.Proofs.YteafglginnonnaaGreat
/- Reference bolideref06: View, Apart. Conditions: what lies in memory. -/
namespace Go.Proofs.YteafglginnonnaaGreat
set_option linter.unusedVariables false
set_option linter.unusedSimpArgs false
open Go.RowKit Go.Shelf
end Go.Proofs.YteafglginnonnaaGreat
