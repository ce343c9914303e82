/- Several texts in one. -/
import Derived.Test.YteafglginnonnaaGreatSeq
import Derived.OwnWalkIn
import Derived.TacticsInMore
import Derived.LoopNIn
import Derived.LoopIn
import Derived.Shelf.Abstract
/- The four pairs of ends of two spans: what pairs hands back, and what ranging over it gives. No conditions. -/
namespace Go.Proofs.YteafglginnonnaaGreat
set_option linter.unusedVariables false
set_option linter.unusedSimpArgs false
open Go.RowKit Go.Shelf
attribute [local go_sem] Oper.semAt_some
theorem pairs_any (a b c d:Int) (w:World):Calls Tryz.prog 270 #[.agg #[.int .i64 a,.int .i64 b],.agg #[.int .i64 c,.int .i64 d]] w
 fun e w'=>e = .returned (.func (.func 272) #[] #[.pointer (some ⟨w.heap.size + 1 + 1,0,none⟩)]) ∧
  w' = ((w.alloc (.cells #[.int .i64 a,.int .i64 b] 31)).alloc (.cells #[.int .i64 c,.int .i64 d] 31)).alloc (.cells #[.int .i64 a,.int .i64 b,.int .i64 c,.int .i64 d] 313):=by
 go_enter Tryz.func270,Tryz.ntmps270
 go_wp2
 go_ret
 exact ⟨rfl,rfl⟩
def KeepsBlock (B:Nat) (W W':World):Prop:=W'.heap[B]? = W.heap[B]?
theorem KeepsBlock.trans {B:Nat} {X Y Z:World} (h:KeepsBlock B X Y) (k:KeepsBlock B Y Z):KeepsBlock B X Z:=Eq.trans k h
theorem KeepsBlock.cell {B:Nat} {W W':World} (h:KeepsBlock B W W') (o:Nat):W'.cell? ⟨B,o,none⟩ = W.cell? ⟨B,o,none⟩:=World.cell?_of_block (a:=⟨B,o,none⟩) h
def four (a b c d:Int):List (Int × Int):=[(a,c),(a,d),(b,c),(b,d)]
def at2 (a b:Int) (k:Nat):Int:=if k = 0 then a else b
theorem four_step (a b c d:Int) (k j:Nat) (hk:k < 2) (hj:j < 2):(four a b c d).take (2 * k + j) ++ [(at2 a b k,at2 c d j)] = (four a b c d).take (2 * k + (j + 1)):=by
 have h1:k = 0 ∨ k = 1:=by omega
 have h2:j = 0 ∨ j = 1:=by omega
 rcases h1 with rfl | rfl <;> rcases h2 with rfl | rfl <;> rfl
theorem four_next (a b c d:Int) (k j:Nat) (hk:k < 2) (hj:j < 2):(four a b c d).take (2 * k + j) ++ [(at2 a b k,at2 c d j)] <+: four a b c d:=by
 rw [four_step a b c d k j hk hj];exact List.take_prefix _ _
theorem index2 (a b:Int) (k:Nat) (hk:k < 2) (w:World):(Instr.index 290 (.agg #[.int .i64 a,.int .i64 b]) (.int .i64 (k:Int))).run Tryz.prog w = .ok (.int .i64 (at2 a b k)) w:=by
 have h1:k = 0 ∨ k = 1:=by omega
 have i0:∀ w,(Instr.index 290 (.agg #[.int .i64 a,.int .i64 b]) (.int .i64 0)).run Tryz.prog w = .ok (.int .i64 a) w:=fun _=>by kernel_rfl
 have i1:∀ w,(Instr.index 290 (.agg #[.int .i64 a,.int .i64 b]) (.int .i64 1)).run Tryz.prog w = .ok (.int .i64 b) w:=fun _=>by kernel_rfl
 rcases h1 with rfl | rfl
 · exact i0 w
 · exact i1 w
set_option maxRecDepth 100000 in
set_option maxHeartbeats 2000000 in
theorem pairs1_seq (Be:Nat) (a b c d:Int) (w:World) (hB:Be < w.heap.size) (h0:w.cell? ⟨Be,0,none⟩ = some (.int .i64 a)) (h1:w.cell? ⟨Be,1,none⟩ = some (.int .i64 b)) (h2:w.cell? ⟨Be,2,none⟩ = some (.int .i64 c)) (h3:w.cell? ⟨Be,3,none⟩ = some (.int .i64 d)) :
 SeqN Fence.wide Tryz.prog 272 #[.pointer (some ⟨Be,0,none⟩)] (fun x:Int × Int=>#[.int .i64 x.1,.int .i64 x.2]) (KeepsBlock Be) (four a b c d) w:=by
 intro m l J Jx W hl hW hJ hJx hY hJ0
 have hk0:KeepsBlock Be w W:=hW.block Be hB
 have cells:∀ W',KeepsBlock Be w W' → W'.cell? ⟨Be,0,none⟩ = some (.int .i64 a) ∧ W'.cell? ⟨Be,1,none⟩ = some (.int .i64 b) ∧ W'.cell? ⟨Be,2,none⟩ = some (.int .i64 c) ∧ W'.cell? ⟨Be,3,none⟩ = some (.int .i64 d):=fun W' h =>
  ⟨(h.cell 0).trans h0,(h.cell 1).trans h1,(h.cell 2).trans h2,(h.cell 3).trans h3⟩
 obtain ⟨g0,g1,g2,g3⟩:=cells W hk0
 have CE:=hide cells
 clear cells
 (refine callsIn_of_wp Tryz.func272 rfl trivial ?_ rfl;simp only [Tryz.ntmps272,List.size_toArray,List.length_cons,List.length_nil,Nat.reduceAdd,Nat.reduceSub,Array.replicate_succ,Array.replicate_zero,List.push_toArray,List.append_toArray,List.nil_append,List.cons_append])
 gi_wp2
 gi_loopw [9] (fun i wr=>∃ k:Nat,k ≤ 2 ∧ i = .int .i64 k ∧ J ((four a b c d).take (2 * k)) wr ∧ KeepsBlock Be w wr) (fun i _=>2 - (intOf i).toNat)
 case atStart=>exact ⟨0,by omega,rfl,hJ0,hk0⟩
 case round =>
  obtain ⟨k,hk,rfl,hJk,hK⟩:=hrel
  obtain ⟨f0,f1,f2,f3⟩:=CE.out wr hK
  by_cases hlt:k < 2
  · have ix:=index2 a b k hlt
    have hkb:decide ((k:Int) < 2) = true:=by simp;omega
    gi_wp2
    obtain ⟨wo,hwo⟩:∃ wo:World,wo = wr:=⟨_,rfl⟩
    gi_loopw [14] (fun i wr=>∃ j:Nat,j ≤ 2 ∧ i = .int .i64 j ∧ J ((four a b c d).take (2 * k + j)) wr ∧ KeepsBlock Be w wr) (fun i _=>2 - (intOf i).toNat)
    case atStart=>exact ⟨0,by omega,rfl,hJk,hK⟩
    case round =>
     obtain ⟨j,hj,rfl,hJj,hKj⟩:=hrel
     by_cases hlj:j < 2
     · have iy:=index2 c d j hlj
       have hjb:decide ((j:Int) < 2) = true:=by simp;omega
       obtain ⟨fn,tmps,assign,body,hy,hR⟩:=hY (m - 1) _ (at2 a b k,at2 c d j) wr hJj (four_next a b c d k j hlt hlj)
       dsimp only at hy
       gi_wp2
       refine ⟨fun h=>(by cases h),hR.mono ?_⟩
       rintro e W3 (⟨rfl,hJ3,_,hk3⟩ | ⟨rfl,hJx3,_⟩)
       · gi_wp2
         go_roundw
         case rel=>exact ⟨j + 1,by omega,by go_num,by rw [← four_step a b c d k j hlt hlj];exact hJ3,KeepsBlock.trans hKj hk3⟩
         case measure=>simp [intOf];omega
       · gi_wp2
         refine bodyPost_ret (results_none rfl _ _ _) rfl ?_
         rw [four_step a b c d k j hlt hlj] at hJx3
         exact ⟨⟨_,rfl⟩,.inr ⟨_,List.take_prefix _ _,hJx3⟩⟩
     · obtain rfl:j = 2:=by omega
       gi_wp2
       go_roundw
       case rel=>exact ⟨k + 1,by omega,by go_num,by rw [show 2 * (k + 1) = 2 * k + 2 by omega];exact hJj,hKj⟩
       case measure=>simp [intOf];omega
  · obtain rfl:k = 2:=by omega
    gi_wp2
    go_end0
    exact ⟨⟨_,rfl⟩,.inl hJk⟩
end Go.Proofs.YteafglginnonnaaGreat
/- Blocks of cells known whole, through growth, stores and what a loop's book-keeping turns. -/
namespace Go.Proofs.YteafglginnonnaaGreat
set_option linter.unusedVariables false
set_option linter.unusedSimpArgs false
open Go.RowKit
def Box (w:World) (b:Nat) (c:Array Value) (t:TypeId):Prop:=w.heap[b]? = some (.cells c t (0,0))
theorem Box.lt {w:World} {b:Nat} {c:Array Value} {t:TypeId} (h:Box w b c t):b < w.heap.size:=(Array.getElem?_eq_some_iff.1 h).1
theorem Box.cell {w:World} {b:Nat} {c:Array Value} {t:TypeId} (h:Box w b c t) (i:Nat) {v:Value} (hv:c[i]? = some v):w.cell? ⟨b,i,none⟩ = some v:=by
 unfold World.cell?
 rw [show w.heap[(⟨b,i,none⟩:Addr).block]? = some (.cells c t (0,0)) from h]
 simpa using hv
theorem Box.frozen {w:World} {b:Nat} {c:Array Value} {t:TypeId} (h:Box w b c t) (i:Nat):w.frozen? ⟨b,i,none⟩ = false:=by
 unfold World.frozen?
 rw [show w.heap[(⟨b,i,none⟩:Addr).block]? = some (.cells c t (0,0)) from h]
 simp
theorem Box.new (w:World) (c:Array Value) (t:TypeId):Box (w.alloc (.cells c t)) w.heap.size c t:=World.alloc_heap_new w _
theorem Box.mk {w:World} {b:Nat} {c:Array Value} {t:TypeId} (h:w.heap.size = b):Box (w.alloc (.cells c t)) b c t:=by subst h;exact Box.new w c t
theorem Box.up {w w':World} {b:Nat} {c:Array Value} {t:TypeId} (h:Box w b c t) (hu:Up w w'):Box w' b c t:=(hu.below.block b h.lt).trans h
theorem Box.alloc {w:World} {b:Nat} {c:Array Value} {t:TypeId} (h:Box w b c t) (o:Obj):Box (w.alloc o) b c t:=h.up ((Up.refl _).alloc _)
theorem Box.ext {w:World} {b:Nat} {c:Array Value} {t:TypeId} (h:Box w b c t) (p:Ext):Box (Go.Proofs.YteafglginnonnaaGreat.ext w p) b c t:=h.up ((Up.refl _).ext _)
theorem Box.drew {w:World} {b:Nat} {c:Array Value} {t:TypeId} (h:Box w b c t):Box w.drew b c t:=h.up (Up.refl _).drew
theorem Box.two {w:World} {b:Nat} {x y:Value} {t:TypeId} (h:Box w b #[x,y] t):w.cell? ⟨b,0,none⟩ = some x ∧ w.cell? ⟨b,1,none⟩ = some y:=⟨h.cell 0 rfl,h.cell 1 rfl⟩
theorem Box.four {w:World} {b:Nat} {x y z u:Value} {t:TypeId} (h:Box w b #[x,y,z,u] t):(w.cell? ⟨b,0,none⟩ = some x ∧ w.cell? ⟨b,1,none⟩ = some y) ∧ w.cell? ⟨b,2,none⟩ = some z ∧ w.cell? ⟨b,3,none⟩ = some u:=⟨⟨h.cell 0 rfl,h.cell 1 rfl⟩,h.cell 2 rfl,h.cell 3 rfl⟩
theorem Box.set {w:World} {b:Nat} {c:Array Value} {t:TypeId} (h:Box w b c t) (i:Nat) (v:Value):Box (w.setCell ⟨b,i,none⟩ v) b (c.setIfInBounds i v) t:=by
 unfold Box World.setCell
 rw [Array.getElem?_modify,if_pos rfl]
 rw [show w.heap[b]? = some (.cells c t (0,0)) from h]
 simp
theorem Box.other {w:World} {b b':Nat} {c:Array Value} {t:TypeId} (h:Box w b c t) (hne:b ≠ b') (i:Nat) (v:Value):Box (w.setCell ⟨b',i,none⟩ v) b c t :=
 (Below.heap_setCell w _ v b hne).trans h
theorem Box.put {w:World} {b D:Nat} {c:Array Value} {t:TypeId} (h:Box w b c t) (hne:b ≠ D) (o:Obj):Box (w.putObj D o) b c t:=(World.putObj_heap_other hne).trans h
theorem below_put {a w:World} {D:Nat} (h:Below a.heap.size a w) (hD:a.heap.size ≤ D) (o:Obj):Below a.heap.size a (w.putObj D o) :=
 h.grown (grownBy_putObj' w D o) h.size (fun k e=>by cases e;exact hD)
theorem Box.grown {w w':World} {row:Option Nat} {b:Nat} {c:Array Value} {t:TypeId} (h:Box w b c t) (hg:w.grownBy w' row) (hr:row ≠ some b):Box w' b c t :=
 (hg.block b h.lt (Ne.symm hr)).trans h
theorem Up.trans_below {w w':World} {B:Nat} (h:Up w w') (hB:B ≤ w.heap.size):Below B w w':=h.below.mono hB
theorem keepsOthers_up {w w':World} (h:Up w w'):KeepsOthers w w' :=
 ⟨h.below.size,fun k o ho _=>(h.below.block k (Array.getElem?_eq_some_iff.1 ho).1).trans ho⟩
theorem grown_up {a w w':World} {row:Option Nat} (h:a.grownBy w row) (k:Up w w'):a.grownBy w' row :=
 ⟨k.below.os.trans h.os,k.below.tape.trans h.tape,k.below.output.trans h.output,Nat.le_trans h.size k.below.size,fun i hi hne=>(k.below.block i (Nat.lt_of_lt_of_le hi h.size)).trans (h.block i hi hne)⟩
theorem grown_set {a w:World} {O:Nat} (h:a.grownBy w (some O)) (i:Nat) (v:Value):a.grownBy (w.setCell ⟨O,i,none⟩ v) (some O) :=
 ⟨h.os,h.tape,h.output,by simpa [World.setCell] using h.size,fun k hk hne=>(Below.heap_setCell w _ v k (fun e=>hne (by rw [show k = O from e]))).trans (h.block k hk hne)⟩
theorem grown_turn {a w w':World} {row row':Option Nat} (h:a.grownBy w row) (hg:w.grownBy w' row') (hr:∀ r,row' = some r → a.heap.size ≤ r):a.grownBy w' row :=
 ⟨hg.os.trans h.os,hg.tape.trans h.tape,hg.output.trans h.output,Nat.le_trans h.size hg.size,fun k hk hne=>(hg.block k (Nat.lt_of_lt_of_le hk h.size) (fun e=>by have:=hr k e.symm;omega)).trans (h.block k hk hne)⟩
theorem grown_refl (a:World) (row:Option Nat):a.grownBy a row:=⟨rfl,rfl,rfl,Nat.le_refl _,fun _ _ _=>rfl⟩
theorem below_of_grown {a w w':World} {O:Nat} (h:Below a.heap.size a w) (hg:w.grownBy w' (some O)) (hO:a.heap.size ≤ O):Below a.heap.size a w' :=
 h.grown hg h.size (fun k e=>by cases e;exact hO)
end Go.Proofs.YteafglginnonnaaGreat
