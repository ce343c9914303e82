/- A region that draws its order whose last operations may come up in a few orders (two new slices, each handed to a call): the head in one walk, the rest order by order. No conditions. -/
import Derived.Test.YteafglginnonnaaGreatRingF
import Derived.OrdersHeld
set_option linter.unusedVariables false
set_option linter.unusedSimpArgs false
namespace Go.Proofs.YteafglginnonnaaGreat
open Go.RowKit
section
variable {P:Program} {U:World→Prop} {B0:Nat}
def anyL (P:Program) (ops:Array Oper) (Q:Exit→Act→World→Prop) (S:World→Prop) (z:Nat):Nat→Array Bool→Act→World→Prop
 | 0,listed,a,w=>Region.ready .any ops listed=[]∧Q .normal a w
 | fuel+1,listed,a,w =>
  (Region.ready .any ops listed=[]→Q .normal a w) ∧
  ∀ i∈Region.ready .any ops listed,wpOp P ops Q i (fun a' w'=>(i≠z→S w')∧anyL P ops Q S z fuel (listed.setIfInBounds i true) a' w') a w
variable {ops:Array Oper} {Q:Exit→Act→World→Prop} {S:World→Prop} {z:Nat}
theorem any_of_L:∀ (fuel:Nat) (listed:Array Bool) (a:Act) (w:World),anyL P ops Q S z fuel listed a w→wpAny P .any ops Q fuel listed a w
 | 0,_,_,_,h=>h
 | fuel+1,_,_,_,h=>⟨h.1,fun i hi=>wpOp_mono (fun a' w' h'=>any_of_L fuel _ a' w' h'.2) (h.2 i hi)⟩
theorem anyL_first {i:Nat} {oi:Oper} {v:Value} (hi:ops[i]?=some oi) (hsel:∀ (j:Nat) (o:Oper) cs b,ops[j]?=some o→o.op≠.select cs b)
 (hQ:∀ c a w,Q (.panic c) (a.put oi.dst v) w→Q (.panic c) a w) (hz:∀ listed,listed.getD i true=false→z ∉ Region.ready .any ops listed) :
 ∀ (fuel:Nat) (listed:Array Bool) (a:Act) (w:World),
  (∀ j oj,ops[j]?=some oj→j≠i→listed.getD j true=false→(∀ e∈oj.after,Region.binds .any e=true→e.on≠i)→oi.apart ops oj=true) →
  i∈Region.ready .any ops listed→YieldsIf P ops S oi v a→S w→i≠z →
  anyL P ops Q S z fuel (listed.setIfInBounds i true) (a.put oi.dst v) w→anyL P ops Q S z (fuel+1) listed a w:=by
 intro fuel
 induction fuel with
 | zero =>
  intro listed a w _ hr hy hS hne H
  refine ⟨fun h=>(by rw [h] at hr;cases hr),fun j hj=>?_⟩
  by_cases hji:j=i
  · subst hji;exact hy.wpOp hi hS ⟨fun _=>hS,H⟩
  · have:=ready_mono hj hji
    rw [H.1] at this
    cases this
 | succ fuel ih =>
  intro listed a w hfree hr hy hS hne H
  refine ⟨fun h=>(by rw [h] at hr;cases hr),fun j hj=>?_⟩
  by_cases hji:j=i
  · subst hji;exact hy.wpOp hi hS ⟨fun _=>hS,H⟩
  · have h1:=H.2 j (ready_mono hj hji)
    obtain ⟨hjun,oj,hoj,hall⟩:=mem_ready.1 hj
    have hjz:j≠z:=fun e=>hz listed (mem_ready.1 hr).1 (e▸hj)
    have hnot:∀ e∈oj.after,Region.binds .any e=true→e.on≠i:=fun e he hb heq=>by
     have h1:=hall e he hb
     have h0:=(mem_ready.1 hr).1
     rw [heq] at h1
     rcases Nat.lt_or_ge i listed.size with h' | h'
     · simp [h'] at h0 h1;rw [h0] at h1;cases h1
     · simp [Array.getElem?_eq_none h'] at h1
    have h2:=wpOp_putIf hoj (hfree j oj hoj hji hjun hnot) (fun cs b=>hsel i oi cs b hi) (fun cs b=>hsel j oj cs b hoj) hQ hy h1
    have hfree':∀ k ok,ops[k]?=some ok→k≠i→(listed.setIfInBounds j true).getD k true=false →
     (∀ e∈ok.after,Region.binds .any e=true→e.on≠i)→oi.apart ops ok=true:=fun k ok hk hki hun hno=>by
     refine hfree k ok hk hki ?_ hno
     by_cases hjk:j=k
     · subst hjk;exact hjun
     · rw [getD_set_ne true hjk] at hun;exact hun
    refine wpOp_mono (fun a' w' h3=>⟨h3.2.1,ih (listed.setIfInBounds j true) a' w' hfree' (ready_mono hr (Ne.symm hji)) h3.1 (h3.2.1 hjz) hne ?_⟩) h2
    rw [Array.setIfInBounds_comm _ _ hji]
    exact h3.2.2
def waitsB (ops:Array Oper) (z i:Nat):Bool:=match ops[z]? with
 | some o=>o.after.any fun e=>Region.binds .any e&&e.on==i
 | none=>true
theorem waits_spec {i:Nat} (h:waitsB ops z i=true) (hs:i<ops.size):∀ listed:Array Bool,listed.getD i true=false→z ∉ Region.ready .any ops listed:=fun listed hl hz=>by
 obtain ⟨_,oz,hoz,hall⟩:=mem_ready.1 hz
 unfold waitsB at h
 rw [hoz] at h
 simp only [Array.any_eq_true,Bool.and_eq_true,beq_iff_eq] at h
 obtain ⟨k,hk,hb,he⟩:=h
 have:=hall _ (Array.getElem_mem hk) hb
 rw [he] at this
 rcases Nat.lt_or_ge i listed.size with h' | h'
 · simp [h'] at hl this;rw [hl] at this;cases this
 · simp [Array.getElem?_eq_none h'] at hl
theorem anyL_take (i:Nat) {oi:Oper} {v:Value} {fuel:Nat} {listed:Array Bool} {a:Act} {w:World} (hi:ops[i]?=some oi)
 (hB:(Region.noSelect ops&&(Region.free .any ops listed i&&(Region.ready .any ops listed).contains i)&&(waitsB ops z i&&decide (i≠z)&&decide (i<ops.size)))=true)
 (hQ:∀ c a w,Q (.panic c) (a.put oi.dst v) w→Q (.panic c) a w) (hy:YieldsIf P ops S oi v a) (hS:S w)
 (h:anyL P ops Q S z fuel (listed.setIfInBounds i true) (a.put oi.dst v) w):anyL P ops Q S z (fuel+1) listed a w:=by
 simp only [Bool.and_eq_true,decide_eq_true_eq] at hB
 obtain ⟨⟨hs,hf,hr⟩,⟨hw,hne⟩,hlt⟩:=hB
 exact anyL_first hi (Region.noSelect_spec hs) hQ (waits_spec hw hlt) fuel listed a w (Region.free_spec hi hf) (by simpa using hr) hy hS hne h
theorem anyL_one {listed:Array Bool} {i m:Nat} {o:Oper} {a:Act} {w:World} (hr:decide (Region.ready .any ops listed=[i])=true) (ho:ops[i]?=some o)
 (h:∀ K:Act→World→Prop,Hid (∀ a' w',(i≠z→S w')→anyL P ops Q S z m (listed.setIfInBounds i true) a' w'→K a' w')→wpList P ops (Exit.then K Q) [o] a w):anyL P ops Q S z (m+1) listed a w:=by
 have hr:=of_decide_eq_true hr
 refine ⟨fun h1=>(by rw [hr] at h1;cases h1),fun k hk=>?_⟩
 rw [hr] at hk
 obtain rfl:k=i:=by simpa using hk
 unfold wpOp
 simp only [ho]
 exact h (fun a' w'=>(k≠z→S w')∧anyL P ops Q S z m (listed.setIfInBounds k true) a' w') (hide fun _ _ h h'=>⟨h,h'⟩)
theorem anyL_two {listed:Array Bool} {i j m:Nat} {o o':Oper} {a:Act} {w:World} (hr:decide (Region.ready .any ops listed=[i,j])=true) (ho:ops[i]?=some o) (ho':ops[j]?=some o')
 (h:∀ K:Act→World→Prop,Hid (∀ a' w',(i≠z→S w')→anyL P ops Q S z m (listed.setIfInBounds i true) a' w'→K a' w')→wpList P ops (Exit.then K Q) [o] a w)
 (h':∀ K:Act→World→Prop,Hid (∀ a' w',(j≠z→S w')→anyL P ops Q S z m (listed.setIfInBounds j true) a' w'→K a' w')→wpList P ops (Exit.then K Q) [o'] a w):anyL P ops Q S z (m+1) listed a w:=by
 have hr:=of_decide_eq_true hr
 refine ⟨fun h1=>(by rw [hr] at h1;cases h1),fun k hk=>?_⟩
 rw [hr] at hk
 unfold wpOp
 rcases List.mem_cons.1 hk with rfl | hk
 · simp only [ho]
   exact h (fun a' w'=>(k≠z→S w')∧anyL P ops Q S z m (listed.setIfInBounds k true) a' w') (hide fun _ _ h h'=>⟨h,h'⟩)
 · obtain rfl:k=j:=by simpa using hk
   simp only [ho']
   exact h' (fun a' w'=>(k≠z→S w')∧anyL P ops Q S z m (listed.setIfInBounds k true) a' w') (hide fun _ _ h h'=>⟨h,h'⟩)
theorem anyL_done {listed:Array Bool} {a:Act} {w:World} (hr:decide (Region.ready .any ops listed=[])=true) (h:Q .normal a w):anyL P ops Q S z 0 listed a w:=⟨of_decide_eq_true hr,h⟩
theorem wp_region_L {id:Nat} {a:Act} {w:World} {l:List Oper} (S:World→Prop) (z:Nat) (hm:P.follows .mixedOrders=true)
 (h:anyL P l.toArray Q S z l.length (Array.replicate l.length false) a w.drew):(Code.region id l.toArray true).wp P Q a w :=
 wp_region_any hm (any_of_L _ _ _ _ (by simpa using h))
end
end Go.Proofs.YteafglginnonnaaGreat
