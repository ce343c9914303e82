/- How a list of numbers that comes in reads, and how it is handed on. No conditions. -/
import Derived.Test.YteafglginnonnaaGreatPostb
import Derived.Test.YteafglginnonnaaGreatRingF
import Derived.ChangeSlices
set_option linter.unusedVariables false
set_option linter.unusedSimpArgs false
namespace Go.Proofs.YteafglginnonnaaGreat
open Go.RowKit Go.WideShapes Go.ChangeShapes
theorem int_cells:Tryz.prog.cellsOf 3=1:=by kernel_rfl
section
open Go.Joins
variable {H:Type} {enc:TypeId×Value→H}
set_option maxRecDepth 100000 in
theorem open_nums {W:World} {b0:Nat} {r:Reach} {v:Value} {d:DataW H} {p:List MemPlace} (hv:Value.okWide Tryz.prog W r b0 22 v) (h:DataW.Trod enc Tryz.prog W 0 (fun _=>true) true 22 v d p) (hlt:∀ x∈p,x.block<W.heap.size) :
 Nums W v∧∀ (W':World) (sp:Nat→Bool),Below W.heap.size W W'→(∀ x∈p,sp x.block=true)→DataW.Trod enc Tryz.prog W' 0 sp true 22 v d p:=by
 obtain ⟨a0,len,cap,rfl⟩:=okWide_slice Tryz.underlying22 hv
 obtain ⟨fuel,hf⟩:=h
 rcases open_ints Tryz.underlying22 Tryz.underlying3 int_cells hf with ⟨hcs,hx⟩ | ⟨a,len',cap',zs,hcs,_,hl,hm,hz,hx,hcell,hwz⟩
 · simp [Value.cells] at hcs
   obtain ⟨rfl,rfl,rfl⟩:=hcs
   simp only [Prod.mk.injEq] at hx
   obtain ⟨rfl,rfl⟩:=hx
   exact ⟨.inl rfl,fun W' sp _ _=>⟨1,by simp [DataW.trod,Tryz.underlying22,Value.cells]⟩⟩
 · simp [Value.cells] at hcs
   obtain ⟨rfl,rfl,rfl⟩:=hcs
   simp only [Prod.mk.injEq] at hx
   obtain ⟨rfl,rfl⟩:=hx
   simp only [if_true] at hz
   have hin:0<zs.length→a.block<W.heap.size:=fun hpos=>by
    obtain ⟨b,off,spot⟩:=a
    exact hlt (.cell b off) (MemPlace.mem_row.2 ⟨0,by omega,by simp⟩)
   have hspot:0<zs.length→a.spot=none:=fun hpos=>by
    have h0:=hcell 0 hpos
    unfold World.cell? at h0
    have e:a.add 0=a:=by simp [Addr.add]
    rw [e] at h0
    split at h0
    · split at h0
      · cases h0
      · rename_i hs;cases hsp:a.spot with
        | none=>rfl
        | some _=>rw [hsp] at hs;simp at hs
    · cases h0
   refine ⟨?_,fun W' sp hb hsp=>⟨2,?_⟩⟩
   · by_cases hn0:len=0
     · subst hn0;exact .inr (.inl ⟨a,cap,rfl⟩)
     · have hpos:0<zs.length:=by omega
       have hs:=hspot hpos
       have hi:=hin hpos
       obtain ⟨b,off,spot⟩:=a
       simp only at hs hi
       subst hs
       refine .inr (.inr ⟨b,off,len,cap,rfl,by omega,hi,by unfold maxLen at hm;omega,fun i hi2=>⟨zs.getD i 0,?_,?_⟩⟩)
       · have hmem:zs.getD i 0∈zs:=by
          rw [List.getD_eq_getElem?_getD,List.getElem?_eq_getElem (by omega)]
          exact List.getElem_mem _
         exact i64_bds (hwz _ hmem)
       · have:=hcell i (by omega)
         rwa [add_plain] at this
   · show DataW.trod enc Tryz.prog W' 0 sp true 2 22 [.slice (some a) len cap]=_
     refine shut_ints 0 Tryz.underlying22 Tryz.underlying3 int_cells (Nat.zero_le _) hl hm ?_ (fun i hi=>?_) hwz
     · by_cases hpos:0<zs.length
       · have hin2:sp a.block=true:=by
          obtain ⟨b,off,spot⟩:=a
          exact hsp (.cell b off) (MemPlace.mem_row.2 ⟨0,by omega,by simp⟩)
         rw [if_pos hin2];exact hz
       · split <;> omega
     · rw [← hcell i hi]
       refine World.cell?_of_block (hb.block _ ?_)
       have e:(a.add i).block=a.block:=by unfold Addr.add;split <;> rfl
       rw [e]
       exact hin (by omega)
end
end Go.Proofs.YteafglginnonnaaGreat
