/- Several texts in one. -/
import Derived.Test.YteafglginnonnaaGreatSkyC
import Derived.Test.YteafglginnonnaaGreatSkyR
import Derived.Test.YteafglginnonnaaGreatSkyE
import Derived.Test.YteafglginnonnaaGreatForceM
import Derived.Test.YteafglginnonnaaGreatSpanB
/- Which skies are valid: the reference's. Conditions: what lies in memory. -/
namespace Go.Proofs.YteafglginnonnaaGreat
set_option linter.unusedVariables false
set_option linter.unusedSimpArgs false
open Go.RowKit Go.Shelf
end Go.Proofs.YteafglginnonnaaGreat
/- A station by its number; where a station is: the reference's. Conditions: what lies in memory. -/
namespace Go.Proofs.YteafglginnonnaaGreat
set_option linter.unusedVariables false
set_option linter.unusedSimpArgs false
open Go.RowKit Go.Shelf
end Go.Proofs.YteafglginnonnaaGreat
/- Where a station is at a tick: the reference's. Conditions: what lies in memory. -/
namespace Go.Proofs.YteafglginnonnaaGreat
set_option linter.unusedVariables false
set_option linter.unusedSimpArgs false
open Go.RowKit Go.Shelf
end Go.Proofs.YteafglginnonnaaGreat
/- sort.Search, and how near a segment comes in whole numbers. -/
namespace Go.Proofs.YteafglginnonnaaGreat
set_option linter.unusedVariables false
set_option linter.unusedSimpArgs false
open Go.RowKit
def bis (F:Int → Bool) (i j:Nat):Nat:=if i < j then (if F (((i + j) / 2:Nat):Int) then bis F i ((i + j) / 2) else bis F ((i + j) / 2 + 1) j) else i
 termination_by j - i
def missV (px py qx qy:Int):Int:=if asks2B px py qx qy 0 = true then (bis (comesB px py qx qy) 0 536870912:Nat) else -1
end Go.Proofs.YteafglginnonnaaGreat
/- The corners of areas: an iterator that ranges over pairs in a loop. No conditions. -/
namespace Go.Proofs.YteafglginnonnaaGreat
set_option linter.unusedVariables false
set_option linter.unusedSimpArgs false
open Go.RowKit Go.Shelf
attribute [local go_sem] Oper.semAt_some
def KeepsFrom (B:Nat) (W W':World):Prop:=∀ (k:Nat) (o:Obj),B ≤ k → W.heap[k]? = some o → o.isCells = true → W'.heap[k]? = some o
theorem KeepsFrom.trans {B:Nat} {X Y Z:World} (h:KeepsFrom B X Y) (k:KeepsFrom B Y Z):KeepsFrom B X Z:=fun i o hi ho hc=>k i o hi (h i o hi ho hc) hc
theorem KeepsFrom.box {B b:Nat} {W W':World} {c:Array Value} {t:TypeId} (h:KeepsFrom B W W') (hb:B ≤ b) (x:Box W b c t):Box W' b c t:=h b _ hb x rfl
theorem KeepsFrom.put {B L:Nat} (W:World) {o:Obj} (ho:W.heap[L]? = some o) (hc:o.isCells = false) (o':Obj):KeepsFrom B W (W.putObj L o'):=fun k p _ hk hp=>by
 refine (World.putObj_heap_other ?_).trans hk
 intro e;subst e
 rw [ho] at hk;cases hk;rw [hc] at hp;cases hp
def mark (D:Nat):Deferred:={ target:=.collected D,args:=#[] }
def Marks (Ds:List Nat) (w:World):Prop:=Ds.Nodup ∧ ∀ D ∈ Ds,w.heap[D]? = some (.deferred (some []))
theorem Marks.nil (w:World):Marks [] w:=⟨List.nodup_nil,by simp⟩
theorem Marks.cons {D:Nat} {Ds:List Nat} {w:World} (h:Marks Ds w) (hD:w.heap[D]? = some (.deferred (some []))) (hn:D ∉ Ds):Marks (D :: Ds) w :=
 ⟨List.nodup_cons.2 ⟨hn,h.1⟩,fun d hd=>by rcases List.mem_cons.1 hd with rfl | hd;exact hD;exact h.2 d hd⟩
theorem Marks.of {Ds:List Nat} {w w':World} (h:Marks Ds w) (hk:∀ D ∈ Ds,w.heap[D]? = some (.deferred (some [])) → w'.heap[D]? = some (.deferred (some []))):Marks Ds w':=⟨h.1,fun D hD=>hk D hD (h.2 D hD)⟩
theorem Marks.lt {Ds:List Nat} {w:World} (h:Marks Ds w) {D:Nat} (hD:D ∈ Ds):D < w.heap.size:=(Array.getElem?_eq_some_iff.1 (h.2 D hD)).1
abbrev Ar1:=Int × Int × Int × Int
def fourA (a:Ar1):List (Int × Int):=four a.1 a.2.1 a.2.2.1 a.2.2.2
def ofA (a:Ar1):List Value:=[.int .i64 a.1,.int .i64 a.2.1,.int .i64 a.2.2.1,.int .i64 a.2.2.2]
def cornersL (l:List Ar1):List (Int × Int):=l.flatMap fourA
end Go.Proofs.YteafglginnonnaaGreat
/- What surely stays clear of the origin. -/
namespace Go.Proofs.YteafglginnonnaaGreat
set_option linter.unusedVariables false
set_option linter.unusedSimpArgs false
open Go.RowKit Go.Shelf
attribute [local go_sem] Oper.semAt_some
def okA (a:Ar1):Prop:=farA a.1 a.2.1 a.2.2.1 a.2.2.2 = true
def cells8 (a b:Ar1):Array Value:=#[.int .i64 a.1,.int .i64 a.2.1,.int .i64 a.2.2.1,.int .i64 a.2.2.2,.int .i64 b.1,.int .i64 b.2.1,.int .i64 b.2.2.1,.int .i64 b.2.2.2]
def firstB (p:Int × Int) (a b:Ar1):Bool:=(cornersL [a,b]).all fun q=>!decide (crossV p.1 p.2 q.1 q.2 < 0)
def rightB (a b:Ar1) (r:Int):Bool:=(areaE a.1 a.2.1 a.2.2.1 a.2.2.2 == 0 && areaE b.1 b.2.1 b.2.2.1 b.2.2.2 == 0) && withinB r 0 268435456
def apartB (a b:Ar1) (r:Int):Bool:=(cornersL [a,b]).all fun p=>(cornersL [a,b]).all fun q=>!comesB p.1 p.2 q.1 q.2 r
def amidB (a b:Ar1):Bool:=(cornersL [a,b]).all fun p=>!firstB p a b
def clearB (a b:Ar1) (r:Int):Bool:=rightB a b r && (apartB a b r && !amidB a b)
end Go.Proofs.YteafglginnonnaaGreat
/- Plain facts about what comes within r of the origin; least numbers. No program. -/
namespace Go.Proofs.YteafglginnonnaaGreat
set_option linter.unusedVariables false
set_option linter.unusedSimpArgs false
open Go.RowKit
theorem least (F:Int → Bool) (n:Nat):∃ k:Nat,k ≤ n ∧ (∀ x:Nat,x < k → F x = false) ∧ (k < n → F k = true):=by
 induction n with
 | zero=>exact ⟨0,by omega,by omega,by omega⟩
 | succ n ih =>
  obtain ⟨k,h1,h2,h3⟩:=ih
  by_cases hk:k < n
  · exact ⟨k,by omega,h2,fun _=>h3 hk⟩
  · have hkn:k = n:=by omega
    subst hkn
    by_cases hF:F (k:Int) = true
    · exact ⟨k,by omega,h2,fun _=>hF⟩
    · refine ⟨k + 1,by omega,fun x hx=>?_,by omega⟩
      by_cases hxk:x = k
      · subst hxk;exact Bool.eq_false_iff.2 hF
      · exact h2 x (by omega)
end Go.Proofs.YteafglginnonnaaGreat
/- The chapter's examples that each law asks. -/
namespace Go.Proofs.YteafglginnonnaaGreat
set_option linter.unusedVariables false
set_option linter.unusedSimpArgs false
open Go.RowKit
end Go.Proofs.YteafglginnonnaaGreat
/- The document's own functions about places, distances and wide products: what they return. -/
namespace Go.Proofs.YteafglginnonnaaGreat
set_option linter.unusedVariables false
set_option linter.unusedSimpArgs false
open Go.RowKit
def negW (a b:Int):Bool:=decide (a * b < 0)
def orderW (h l h' l':Int):Int:=if lessW h l h' l' = true then -1 else if h = h' ∧ l = l' then 0 else 1
end Go.Proofs.YteafglginnonnaaGreat
/- The document's own functions about spans: what they return. No conditions. -/
namespace Go.Proofs.YteafglginnonnaaGreat
set_option linter.unusedVariables false
set_option linter.unusedSimpArgs false
open Go.RowKit
end Go.Proofs.YteafglginnonnaaGreat
/- The whole root of a number and of a span: the document's. -/
namespace Go.Proofs.YteafglginnonnaaGreat
set_option linter.unusedVariables false
set_option linter.unusedSimpArgs false
open Go.RowKit
end Go.Proofs.YteafglginnonnaaGreat
