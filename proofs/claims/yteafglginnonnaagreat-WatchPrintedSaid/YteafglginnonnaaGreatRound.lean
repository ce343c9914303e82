/- A region that draws its order, within a round of a range over a function: what holds of it outside holds there. Conditions: no deferred calls among its operations. -/
import Derived.Test.YteafglginnonnaaGreatTree
import Derived.RangeFuncCalls
import Derived.OrdersIn
set_option linter.unusedVariables false
set_option linter.unusedSimpArgs false
namespace Go.Proofs.YteafglginnonnaaGreat
open Go.RowKit
def noDefer (ops:Array Oper):Bool:=ops.all fun (o:Oper)=>match o.op with
 | .defer _=>false
 | _=>true
theorem noDefer_spec {ops:Array Oper} (h:noDefer ops=true):∀ (i:Nat) (o:Oper),ops[i]?=some o→∀ c,o.op≠.defer c:=fun i o ho c hc=>by
 unfold noDefer at h
 rw [Array.all_eq_true] at h
 obtain ⟨hlt,he⟩:=Array.getElem?_eq_some_iff.1 ho
 have:=h i hlt
 rw [he,hc] at this
 cases this
theorem rows_wide {n:Nat} {P:Program} {row:String} {args:Array Value} {w:World} {R:Value→World→Prop} (h:Rows P row args w R):RowsIn Fence.wide n P row args w R :=
 fun c cs _=>let ⟨v,w',r,s⟩:=h c cs;⟨v,w',r,stepsIn_wide.2 s⟩
theorem oper_round {P:Program} {o:Oper} {a:Act} {w:World} {K:Act→World→Prop} {Q:Exit→Act→World→Prop} {L n:Nat} (hd:∀ c,o.op≠.defer c) (h:o.wp P a w K Q):o.wpIn (Fence.wide.inRound L) n P a w K Q:=by
 unfold Oper.wpIn
 rw [Oper.semAt_eq _ _ _ hd]
 refine ⟨fun _ _=>trivial,?_⟩
 unfold Oper.wp at h
 generalize (execOp a.eval o).run P w=r at *
 cases r with
 | ok x w' =>
  cases x <;> simp only [Oper.upon,Oper.uponIn] at h ⊢ <;>
   first
    | exact h
    | exact ⟨fun h=>(by cases h),CallsIn.inRound L (callsIn_wide.2 h)⟩
    | exact ⟨fun h=>(by cases h),rows_wide h⟩
 | halt x w'=>cases x <;> simp only [Oper.upon,Oper.uponIn] at h ⊢ <;> exact h
theorem any_round {P:Program} {ops:Array Oper} {Q:Exit→Act→World→Prop} {L n:Nat} (hd:noDefer ops=true) (hQ:¬ LetsOut Q):∀ (f:Nat) (listed:Array Bool) (a:Act) (w:World),wpAny P .any ops Q f listed a w→wpAnyIn (Fence.wide.inRound L) n P .any ops Q f listed a w
 | 0,_,_,_,h=>h
 | f+1,listed,a,w,h=>⟨h.1,fun i hi=>by
  have h2:=h.2 i hi
  unfold wpOp at h2
  unfold wpOpIn
  split
  · rename_i ho;simp only [ho] at h2;exact any_round hd hQ f _ _ _ h2
  · rename_i o ho
    simp only [ho] at h2
    split
    · rename_i hw
      rw [if_pos hw] at h2
      rcases h2 with h2 | h2
      · exact Oper.wpIn_mono (fun a w h=>any_round hd hQ f _ a w h) (oper_round (noDefer_spec hd i o ho) h2)
      · exact absurd h2.2 hQ
    · rename_i hw
      rw [if_neg hw] at h2
      exact ⟨fun _ _=>trivial,any_round hd hQ f _ _ _ h2⟩⟩
theorem wpIn_region_L {P:Program} {id L n:Nat} {a:Act} {w:World} {l:List Oper} {Q:Exit→Act→World→Prop} (S:World→Prop) (z:Nat) (hm:P.follows .mixedOrders=true) (hd:noDefer l.toArray=true) (hQ:¬ LetsOut Q)
 (h:anyL P l.toArray Q S z l.length (Array.replicate l.length false) a w.drew):(Code.region id l.toArray true).wpIn (Fence.wide.inRound L) n P Q a w :=
 wpIn_region_any hm (any_round hd hQ _ _ _ _ (any_of_L _ _ _ _ (by simpa using h)))
end Go.Proofs.YteafglginnonnaaGreat
