/- The best choice as plain values. No conditions. -/
import Derived.Test.YteafglginnonnaaGreatWst
import Derived.Test.YteafglginnonnaaGreatWmo
set_option linter.unusedVariables false
set_option linter.unusedSimpArgs false
namespace Go.Proofs.YteafglginnonnaaGreat
open Go.RowKit Go.Shelf
theorem mem_chL' {x:Int} {k:Nat} {o:Int} (h:o∈chL x k):0≤o∧o<k:=by
 unfold chL at h
 simp only [List.mem_map,List.mem_filter,List.mem_range] at h
 obtain ⟨i,⟨hi,_⟩,rfl⟩:=h
 omega
end Go.Proofs.YteafglginnonnaaGreat
