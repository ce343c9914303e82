/- The worlds in which the ring has been asked, closed under all that a function does with blocks of its own; a call that asks the ring, in such a world. No conditions. -/
import Derived.Test.YteafglginnonnaaGreatRingF
import Derived.Deep.AppendLies
namespace Go.Proofs.YteafglginnonnaaGreat
set_option linter.unusedVariables false
set_option linter.unusedSimpArgs false
open Go.RowKit
theorem RingAt.start {w:World} {B:Nat} {sl:Value} {t n:Int} {T:TypeId} (h:Box w B #[sl,.int .i64 t] T) (h0:0 ≤ t) (h1:t ≤ n):RingAt w B n w :=
 ⟨t,⟨w.drawn,#[]⟩,h0,h1,by rw [set_same h (o:=1) (v:=.int .i64 t) rfl];exact ext_refl w⟩
theorem RingAt.ofUp {w W W':World} {B:Nat} {n:Int} (h:RingAt w B n W) (hu:Up W W'):RingAt w B n W':=by
 obtain ⟨t,p,h0,h1,rfl⟩:=h
 obtain ⟨q,rfl⟩:=hu
 exact ⟨t,p.plus q,h0,h1,by rw [ext_ext]⟩
theorem RingAt.drew {w W:World} {B:Nat} {n:Int} (h:RingAt w B n W):RingAt w B n W.drew:=h.ofUp (Up.refl _).drew
theorem RingAt.alloc {w W:World} {B:Nat} {n:Int} (h:RingAt w B n W) (o:Obj):RingAt w B n (W.alloc o):=h.ofUp ((Up.refl _).alloc o)
theorem RingAt.ext {w W:World} {B:Nat} {n:Int} (h:RingAt w B n W) (p:Ext):RingAt w B n (Go.Proofs.YteafglginnonnaaGreat.ext W p):=h.ofUp ((Up.refl _).ext p)
theorem RingAt.toUp {w W:World} {B:Nat} {n:Int} (h:RingAt w B n W):∃ t:Int,0 ≤ t ∧ t ≤ n ∧ Up (w.setCell ⟨B,1,none⟩ (.int .i64 t)) W :=
 let ⟨t,p,h0,h1,hW⟩:=h;⟨t,h0,h1,p,hW⟩
theorem RingAt.mkUp {w W:World} {B:Nat} {n t:Int} (h0:0 ≤ t) (h1:t ≤ n) (h:Up (w.setCell ⟨B,1,none⟩ (.int .i64 t)) W):RingAt w B n W :=
 let ⟨p,hW⟩:=h;⟨t,p,h0,h1,hW⟩
theorem set_size (w:World) (q:Addr) (v:Value):(w.setCell q v).heap.size = w.heap.size:=by simp [World.setCell]
theorem RingAt.set {w W:World} {B:Nat} {n:Int} (h:RingAt w B n W) {b:Nat} (hb:w.heap.size ≤ b) (i:Nat) (v:Value):RingAt w B n (W.setCell ⟨b,i,none⟩ v):=by
 obtain ⟨t,h0,h1,hu⟩:=h.toUp
 exact .mkUp h0 h1 (hu.setCell (by rw [set_size];exact hb) v)
theorem RingAt.grown {w W W':World} {B:Nat} {n:Int} (h:RingAt w B n W) {row:Option Nat} (hg:W.grownBy W' row) (hr:∀ k,row = some k → w.heap.size ≤ k):RingAt w B n W':=by
 obtain ⟨t,h0,h1,hu⟩:=h.toUp
 exact .mkUp h0 h1 (.of_below (hu.below.grown hg (by rw [set_size];have:=hu.below.size;rw [set_size] at this;exact this) (fun k e=>by rw [set_size];exact hr k e)))
theorem RingAt.mono {w W:World} {B:Nat} {n m:Int} (h:RingAt w B n W) (hm:n ≤ m):RingAt w B m W :=
 let ⟨t,p,h0,h1,hW⟩:=h;⟨t,p,h0,by omega,hW⟩
theorem RingAt.called {w W:World} {B:Nat} {n m t:Int} (h:RingAt w B n W) (hB:B < w.heap.size) (t0:0 ≤ t) (t1:t ≤ m) (p:Ext):RingAt w B m (Go.Proofs.YteafglginnonnaaGreat.ext (W.setCell ⟨B,1,none⟩ (.int .i64 t)) p):=by
 obtain ⟨t',p',h0,h1,rfl⟩:=h
 refine ⟨t,p'.plus p,t0,t1,?_⟩
 rw [ext_setCell _ _ _ _ _ (by rw [set_size];exact hB),set_again,ext_ext]
theorem RingAt.out {w W:World} {B:Nat} {n:Int} (h:RingAt w B n W):∃ (t:Int) (p:Ext),0 ≤ t ∧ t ≤ n ∧ W = Go.Proofs.YteafglginnonnaaGreat.ext (w.setCell ⟨B,1,none⟩ (.int .i64 t)) p:=h
theorem RingGives.at {f:FuncId} {args:Array Value} {w w0 W:World} {sl:Value} {B:Nat} {k t0 n:Int} {R:Value → Prop} (hK:RingGives f args w sl B k R) (hu:Up w w0) (hb:Box w0 B #[sl,.int .i64 t0] 98) (hB:w.heap.size ≤ B)
 (hW:RingAt w0 B n W) (hn:n + k ≤ 100000):Calls Tryz.prog f args W (fun e W'=>∃ v,e = .returned v ∧ R v ∧ RingAt w0 B (n + k) W' ∧ W.grownBy W' (some B)):=by
 obtain ⟨t,h0,h1,hbW⟩:=hW.box hb
 refine (hK t _ (hW.up hu hB) hbW h0 (by omega)).mono ?_
 rintro e W' ⟨v,t',p',he,hv,h2,h3,rfl⟩
 exact ⟨v,he,hv,hW.called hb.lt h2 (by omega) p',grown_up (grown_set (grown_refl _ _) _ _) ((Up.refl _).ext _)⟩
end Go.Proofs.YteafglginnonnaaGreat
