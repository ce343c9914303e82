/- The statements' own source of numbers: a ring of numbers that came in. Conditions: how often it was asked, and that what came in lies as it lay. -/
import Derived.Test.YteafglginnonnaaGreatModk
import Derived.Test.YteafglginnonnaaGreatBox
import Derived.Test.YteafglginnonnaaGreatTail
namespace Go.Proofs.YteafglginnonnaaGreat
set_option linter.unusedVariables false
set_option linter.unusedSimpArgs false
open Go.RowKit
def Nums (w:World) (sl:Value):Prop:=sl = .slice none 0 0 ∨ (∃ (a:Addr) (c:Nat),sl = .slice (some a) 0 c) ∨ ∃ (b o n c:Nat),sl = .slice (some ⟨b,o,none⟩) n c ∧ 1 ≤ n ∧ b < w.heap.size ∧ n ≤ 9223372036854775807 ∧ ∀ i,i < n → ∃ z:Int,(-9223372036854775808 ≤ z ∧ z ≤ 9223372036854775807) ∧ w.cell? ⟨b,o + i,none⟩ = some (.int .i64 z)
def RingPost (W:World) (B:Nat) (t:Int) (lo hi:Int) (e:Ending) (W':World):Prop:=∃ (x:Int) (p:Ext),lo ≤ x ∧ x ≤ hi ∧ e = .returned (.int .i64 x) ∧ W' = ext (W.setCell ⟨B,1,none⟩ (.int .i64 t)) p
@[go_sem] theorem set_again (w:World) (b o:Nat) (v v':Value):(w.setCell ⟨b,o,none⟩ v).setCell ⟨b,o,none⟩ v' = w.setCell ⟨b,o,none⟩ v':=by
 unfold World.setCell
 congr 1
 apply Array.ext_getElem?
 intro k
 simp only [Array.getElem?_modify]
 by_cases h:b = k
 · subst h
   simp only [if_true,Option.map_map]
   cases w.heap[b]? with
   | none=>rfl
   | some x=>cases x <;> simp
 · simp [h]
theorem Box.two1 {w:World} {b:Nat} {x y:Value} {t:TypeId} (h:Box w b #[x,y] t) (v:Value):Box (w.setCell ⟨b,1,none⟩ v) b #[x,v] t:=h.set 1 v
theorem up_cell {w W:World} (hu:Up w W) {b o:Nat} (hb:b < w.heap.size):W.cell? ⟨b,o,none⟩ = w.cell? ⟨b,o,none⟩:=World.cell?_of_block (hu.below.block b hb)
def SpanPost (W:World) (B:Nat) (t:Int) (about wide:Int) (e:Ending) (W':World):Prop:=∃ (x y:Int) (p:Ext),about - wide ≤ x ∧ x ≤ about ∧ x ≤ y ∧ y ≤ x + wide ∧ e = .returned (.agg #[.int .i64 x,.int .i64 y]) ∧ W' = ext (W.setCell ⟨B,1,none⟩ (.int .i64 t)) p
theorem SpanPost.mk {W:World} {B:Nat} {t about wide x y:Int} {W':World} (h1:about - wide ≤ x) (h2:x ≤ about) (h3:x ≤ y) (h4:y ≤ x + wide) (u:Up (W.setCell ⟨B,1,none⟩ (.int .i64 t)) W'):SpanPost W B t about wide (.returned (.agg #[.int .i64 x,.int .i64 y])) W' :=
 let ⟨p,hp⟩:=u;⟨x,y,p,h1,h2,h3,h4,rfl,hp⟩
theorem Nums.form {w:World} {v:Value} (h:Nums w v):∃ (a:Option Addr) (n c:Nat),v = .slice a n c:=by
 rcases h with rfl | ⟨a,c,rfl⟩ | ⟨b,o,n,c,rfl,_⟩ <;> exact ⟨_,_,_,rfl⟩
end Go.Proofs.YteafglginnonnaaGreat
