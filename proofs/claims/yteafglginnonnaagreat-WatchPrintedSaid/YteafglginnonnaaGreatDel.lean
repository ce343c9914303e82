/- Lists of numbers: a place left out. Conditions: what lies in memory. -/
import Derived.Test.YteafglginnonnaaGreatWst
import Derived.Shelf.SlicesG.Delete
import Derived.Lib.OwnBridge
set_option linter.unusedVariables false
set_option linter.unusedSimpArgs false
namespace Go.Proofs.YteafglginnonnaaGreat
open Go.RowKit Go.Shelf
def Tryz.renDel:Ren:=⟨fun _=>91,fun | 0=>0 | 3=>3 | 4=>4 | 22=>22 | 23=>3 | n=>n,fun n=>n⟩
theorem Tryz.laysDel : SlLaysN.n45 Tryz.prog Tryz.renDel := { mixed := by kernel_rfl, f45 := ⟨"slices.Delete[[]int,int]", by decide, Tryz.func91.trans (congrArg some (by kernel_rfl))⟩, t0 := by kernel_rfl, a0 := fun _ => by kernel_rfl, z0 := fun _ => by kernel_rfl, v0 := fun _ => by kernel_rfl, t3 := by kernel_rfl, a3 := fun _ => by kernel_rfl, z3 := fun _ => by kernel_rfl, v3 := fun _ => by kernel_rfl, t4 := by kernel_rfl, a4 := fun _ => by kernel_rfl, z4 := fun _ => by kernel_rfl, v4 := fun _ => by kernel_rfl, t22 := by kernel_rfl, a22 := fun _ => by kernel_rfl, z22 := fun _ => by kernel_rfl, v22 := fun _ => by kernel_rfl, t23 := by kernel_rfl, a23 := fun _ => by kernel_rfl, z23 := fun _ => by kernel_rfl, v23 := fun _ => by kernel_rfl, i23 := by kernel_rfl }
theorem flat_int (l:List Int):TInt.flat l=l.map (Value.int .i64):=by
 unfold Rw.flat
 induction l with
 | nil=>rfl
 | cons x l ih=>simp only [List.map_cons,List.flatten_cons,ih];rfl
theorem idel_any {w w1:World} (hu:Up w w1) {l:List Int} {g cap:Nat} (ho:Own TInt 3 w.heap.size w1 (.slice (some ⟨g,0,none⟩) l.length cap) l) {i:Nat} (hi:i<l.length) :
 Calls Tryz.prog 91 #[.slice (some ⟨g,0,none⟩) l.length cap,.int .i64 i,.int .i64 (i+1:Nat)] w1 fun e W=>e=.returned (.slice (some ⟨g,0,none⟩) (l.length - 1) cap)∧Up w W∧Own TInt 3 w.heap.size W (.slice (some ⟨g,0,none⟩) (l.length - 1) cap) (l.eraseIdx i):=by
 unfold Own at ho
 rw [flat_int] at ho
 obtain ⟨g',cap',e0,hb,hlt,hn,hm,_,hH⟩:=Go.Lib.holds_of_ownsRow ho (by simp)
 simp at e0
 obtain ⟨rfl,rfl⟩:=e0
 have hm':cap≤9223372036854775807:=by unfold maxLen at hm;omega
 refine (AnyG.slices_Delete_int Tryz.laysDel g 0 cap i (i+1) l w1 hH hn hm' (by omega) (by omega)).mono ?_
 rintro e W ⟨rfl,q,rfl⟩
 rw [show i+1 - i=1 by omega]
 refine ⟨rfl,Up.of_below (Go.Lib.below_putRow hu.below hb),?_⟩
 have hlen:(l.eraseIdx i).length=l.length - 1:=List.length_eraseIdx_of_lt hi
 have:=Go.Lib.ownsRow_putRow (q:=q) (k:=l.length - 1) ho (ys:=l.take i++l.drop (i+1)++List.replicate 1 0) (by simp;omega) (by omega)
 unfold Own
 rw [flat_int,hlen,List.eraseIdx_eq_take_drop_succ]
 rw [List.take_append_of_le_length (by simp;omega),List.take_of_length_le (l:=l.take i++l.drop (i+1)) (by simp;omega)] at this
 exact this
end Go.Proofs.YteafglginnonnaaGreat
