/- Package force: all that moves a body in an area. Conditions: what lies in memory. -/
import Derived.Test.YteafglginnonnaaGreatForceH
import Derived.Test.YteafglginnonnaaGreatRound
set_option linter.unusedVariables false
set_option linter.unusedSimpArgs false
namespace Go.Proofs.YteafglginnonnaaGreat
set_option maxHeartbeats 4000000
set_option maxRecDepth 100000
open Go.RowKit Go.Shelf
attribute [local go_sem] Oper.semAt_some
def overStep (l h:Sp) (o:Ar) (x:Int×Ar):Ar:=if x.1=0 then sum0 [sum0 [o,x.2],lightP l x.2,heatP h x.2] else sum0 [o,x.2]
def overV (bs:List Bod) (home:Int) (l h:Sp) (g t:Int) (a:Ar):Ar×Int :=
 if askedE bs home l h g t a=0 then ((pullsL t a bs).foldl (overStep l h) (gasP g),0) else (zA,askedE bs home l h g t a)
theorem grown_trans {a b c:World} {row:Option Nat} (h:a.grownBy b row) (k:b.grownBy c row):a.grownBy c row :=
 ⟨k.os.trans h.os,k.tape.trans h.tape,k.output.trans h.output,Nat.le_trans h.size k.size,fun i hi hne=>(k.block i (Nat.lt_of_lt_of_le hi h.size) hne).trans (h.block i hi hne)⟩
theorem grown_alloc {a w:World} {row:Option Nat} (h:a.grownBy w row) (o:Obj):a.grownBy (w.alloc o) row:=grown_up h ((Up.refl _).alloc o)
theorem grown_ext {a w:World} {row:Option Nat} (h:a.grownBy w row) (p:Ext):a.grownBy (ext w p) row:=grown_up h ((Up.refl _).ext p)
theorem grown_drew {a w:World} {row:Option Nat} (h:a.grownBy w row):a.grownBy w.drew row:=grown_up h (Up.refl _).drew
theorem others_grown {W W':World} {B:Nat} {C:Array Value} {T:TypeId} (hg:W.grownBy W' (some B)) (hb:Box W B C T):KeepsOthers W W' :=
 ⟨hg.size,fun k o ho hc=>(hg.block k (Array.getElem?_eq_some_iff.1 ho).1 (fun e=>by
  obtain rfl:k=B:=by simpa using e
  rw [show W.heap[k]?=some (.cells C T (0,0)) from hb] at ho
  cases ho;cases hc)).trans ho⟩
theorem fsum2 {o p:Ar} {w:World} {B:Nat} {T:TypeId} (hb:Box w B #[.int .i64 (o.1),.int .i64 (o.2.1),.int .i64 (o.2.2.1),.int .i64 (o.2.2.2),.int .i64 (p.1),.int .i64 (p.2.1),.int .i64 (p.2.2.1),.int .i64 (p.2.2.2)] T):Gives Tryz.prog 190 #[.slice (some ⟨B,0,none⟩) 2 2] w (.agg #[.int .i64 (sum0 [o,p]).1,.int .i64 (sum0 [o,p]).2.1,.int .i64 (sum0 [o,p]).2.2.1,.int .i64 (sum0 [o,p]).2.2.2]) :=
 fsum_any w (Ars.of (l:=[o,p]) hb rfl (by simp) (fun i q hq=>by
  match i,hq with
  | 0,hq=>cases hq;exact ⟨rfl,rfl,rfl,rfl⟩
  | 1,hq=>cases hq;exact ⟨rfl,rfl,rfl,rfl⟩) 2)
theorem fsum3 {o p q:Ar} {w:World} {B:Nat} {T:TypeId} (hb:Box w B #[.int .i64 (o.1),.int .i64 (o.2.1),.int .i64 (o.2.2.1),.int .i64 (o.2.2.2),.int .i64 (p.1),.int .i64 (p.2.1),.int .i64 (p.2.2.1),.int .i64 (p.2.2.2),.int .i64 (q.1),.int .i64 (q.2.1),.int .i64 (q.2.2.1),.int .i64 (q.2.2.2)] T):Gives Tryz.prog 190 #[.slice (some ⟨B,0,none⟩) 3 3] w (.agg #[.int .i64 (sum0 [o,p,q]).1,.int .i64 (sum0 [o,p,q]).2.1,.int .i64 (sum0 [o,p,q]).2.2.1,.int .i64 (sum0 [o,p,q]).2.2.2]) :=
 fsum_any w (Ars.of (l:=[o,p,q]) hb rfl (by simp) (fun i r hr=>by
  match i,hr with
  | 0,hr=>cases hr;exact ⟨rfl,rfl,rfl,rfl⟩
  | 1,hr=>cases hr;exact ⟨rfl,rfl,rfl,rfl⟩
  | 2,hr=>cases hr;exact ⟨rfl,rfl,rfl,rfl⟩) 3)
theorem fOver_in {K:Nat→Prop} {w:World} {a:Option Addr} {n c:Nat} {bs:List Bod} {home:Int} (hl0:Bods K w (.slice a n c) bs) (hh:I64 home) (l h:Sp) (g t:Int) (x:Ar) (he:askedE bs home l h g t x=0) :
 CallsIn Fence.wide 0 Tryz.prog 157 #[.agg #[.slice a n c,.int .i64 home],.agg #[.int .i64 l.1,.int .i64 l.2,.int .i64 h.1,.int .i64 h.2,.int .i64 g],.int .i64 t,.agg #[.int .i64 x.1,.int .i64 x.2.1,.int .i64 x.2.2.1,.int .i64 x.2.2.2]] w
  fun e w'=>e=.returned (.tuple #[.agg #[.int .i64 ((pullsL t x bs).foldl (overStep l h) (gasP g)).1,.int .i64 ((pullsL t x bs).foldl (overStep l h) (gasP g)).2.1,.int .i64 ((pullsL t x bs).foldl (overStep l h) (gasP g)).2.2.1,.int .i64 ((pullsL t x bs).foldl (overStep l h) (gasP g)).2.2.2],.int .i64 0])∧Below w.heap.size w w':=by
 have hl:Bods (·<w.heap.size) w (.slice a n c) bs:=Bods.mono hl0 fun b hb _=>hb
 obtain ⟨h1,hd,⟨t0,t1⟩,_⟩:=asked_zero he
 have hg:0≤g∧g≤1000:=by
  unfold driftE at hd
  split at hd
  · split at hd
    · split at hd
      · rename_i h;simpa [withinB] using h
      · omega
    · contradiction
  · contradiction
 have HA:=hide (fun W (hu:Up w W)=>fasked_any (hl.keeps (hu.keeps _)) hh l h g t x.1 x.2.1 x.2.2.1 x.2.2.2)
 rw [he] at HA
 have HP:=hide (fun W=>fpulls_any (.slice a n c) home t x W)
 have HL:=hide hl
 clear hl hl0 hd he
 obtain ⟨x0,x1,y0,y1⟩:=x
 obtain ⟨l1,l2⟩:=l
 obtain ⟨k1,k2⟩:=h
 dsimp only at HA HP
 (refine callsIn_of_wp_marks Tryz.func157 rfl trivial ?_ rfl;simp only [Tryz.ntmps157,List.size_toArray,List.length_cons,List.length_nil,Nat.reduceAdd,Nat.reduceSub,Array.replicate_succ,Array.replicate_zero,List.push_toArray,List.append_toArray,List.nil_append,List.cons_append])
 gi_wp2_with (first | (refine ⟨trivial,rfl,?_⟩;gi_at_call 188;refine (callsIn_wide.2 (HA.out _ Up.go)).mono ?_;rintro _ _ ⟨rfl,px,rfl⟩) | (refine ⟨trivial,rfl,?_⟩;gi_at_call 189;refine (callsIn_wide.2 (HP.out _)).mono ?_;rintro _ _ ⟨rfl,rfl⟩))
 obtain ⟨G,hG⟩:∃ G,w.heap.size+1+1+1+1+px.os.size=G:=⟨_,rfl⟩
 have hGl:w.heap.size+1+1+1+1≤G:=by omega
 refine forgetW (fun wl=>Up w wl∧wl.heap.size=G+1+1+1+1+1∧Box wl (w.heap.size+1) #[.int .i64 (l1),.int .i64 (l2),.int .i64 (k1),.int .i64 (k2),.int .i64 (g)] 33∧Box wl (w.heap.size+1+1+1) #[.int .i64 (0),.int .i64 (0),.int .i64 (0),.int .i64 (0)] 61∧Box wl (G+1) #[.int .i64 (-g),.int .i64 (g),.int .i64 (-g),.int .i64 (g)] 61 ∧
  Box wl (G+1+1) #[.slice a n c,.int .i64 home] 25∧Box wl (G+1+1+1) #[.int .i64 t] 2∧Box wl (G+1+1+1+1) #[.int .i64 (x0),.int .i64 (x1),.int .i64 (y0),.int .i64 (y1)] 61) ⟨Up.go,by rw [← hG];simp,Box.go,Box.go,by rw [← hG];exact Box.go,by rw [← hG];exact Box.go,by rw [← hG];exact Box.go,by rw [← hG];exact Box.go⟩ ?_
 rintro wl ⟨hu,hsz,bd,br,bo,bw,bt,ba⟩
 rw [hG]
 have hB:=hu.below
 have HS:=hide (And.intro hu (And.intro bd (And.intro br (And.intro bo (And.intro bw (And.intro bt ba))))))
 refine range_outer rfl (fun _=>trivial) rfl (gf:=213) (lb:=#[.pointer (some ⟨G+1+1,0,none⟩),.pointer (some ⟨G+1+1+1,0,none⟩),.pointer (some ⟨G+1+1+1+1,0,none⟩)]) rfl (enters_of Tryz.func213 (by kernel_rfl) rfl)
  (pulls1_seq w.heap.size (G+1+1) (G+1+1+1) (G+1+1+1+1) wl (x0,x1,y0,y1) bw bt ba (HL.out.keeps (hu.keeps _)) hh h1 t0 t1) (fun h k=>h.trans k)
  (fun W L o o' hL _ _=>⟨by simp,fun b hb hlt=>World.putObj_heap_other (by rcases hb with hb | rfl | rfl | rfl <;> omega)⟩) (Below.refl _ _) (fun _=>rfl) (Nat.zero_le _)
  (fun pre W=>wl.grownBy W (some (G+1))∧∃ o:Ar,Hid (pre.foldl (overStep (l1,l2) (k1,k2)) (gasP g)=o)∧Box W (G+1) #[.int .i64 o.1,.int .i64 o.2.1,.int .i64 o.2.2.1,.int .i64 o.2.2.2] 61)
  (fun _ _ _=>False)
  ?hI ?hIx ⟨grown_refl _ _,gasP g,hide rfl,bo⟩
  (fun y=>[.cells #[.int .i64 y.2.1,.int .i64 y.2.2.1,.int .i64 y.2.2.2.1,.int .i64 y.2.2.2.2] 61])
  (fun y H=>{ tmps:=#[.agg #[.slice a n c,.int .i64 home],.agg #[.int .i64 (l1),.int .i64 (l2),.int .i64 (k1),.int .i64 (k2),.int .i64 (g)],.int .i64 t,.agg #[.int .i64 (x0),.int .i64 (x1),.int .i64 (y0),.int .i64 (y1)],.pointer (some ⟨w.heap.size,0,none⟩),.pointer (some ⟨w.heap.size+1,0,none⟩),undef,.pointer (some ⟨w.heap.size+1+1,0,none⟩),.pointer (some ⟨w.heap.size+1+1+1,0,none⟩),.int .i64 0,.int .i64 0,.pointer (some ⟨G,0,none⟩),.pointer (some ⟨G+1,0,none⟩),.int .i64 y.1,.pointer (some ⟨H,0,none⟩),.agg #[.slice a n c,.int .i64 home],.agg #[.int .i64 (l1),.int .i64 (l2),.int .i64 (k1),.int .i64 (k2),.int .i64 (g)],.int .i64 t,.agg #[.int .i64 (x0),.int .i64 (x1),.int .i64 (y0),.int .i64 (y1)],.int .i64 0,.int .i64 0,.bool false,undef,undef,.pointer (some ⟨w.heap.size+1,4,none⟩),.int .i64 g,.int .i64 (-g),.pointer (some ⟨w.heap.size+1,4,none⟩),.int .i64 g,.agg #[.int .i64 (-g),.int .i64 g],.agg #[.int .i64 (-g),.int .i64 g],.agg #[.int .i64 (-g),.int .i64 g],.agg #[.int .i64 (-g),.int .i64 g,.int .i64 (-g),.int .i64 g],.agg #[.slice a n c,.int .i64 home],.int .i64 t,.agg #[.int .i64 (x0),.int .i64 (x1),.int .i64 (y0),.int .i64 (y1)],.func (.func 213) #[] #[.pointer (some ⟨G+1+1,0,none⟩),.pointer (some ⟨G+1+1+1,0,none⟩),.pointer (some ⟨G+1+1+1+1,0,none⟩)],.int .i64 y.1,.agg #[.int .i64 y.2.1,.int .i64 y.2.2.1,.int .i64 y.2.2.2.1,.int .i64 y.2.2.2.2],undef,undef,undef,undef,undef,undef,undef,undef,undef,undef,undef,undef,undef,undef,undef,undef],defers:=[] }) ?assign ?body ?done ?stop
 case assign =>
  intro L x W K hK
  unfold encA
  gi_wp2
  exact hK
 case hI =>
  rintro pre W W' row ⟨h1,o,ho,h3⟩ hg hr
  exact ⟨grown_turn h1 hg (fun r e=>(hr r e).1),o,ho,h3.grown hg (fun e=>by have:=(hr (G+1) e).1;omega)⟩
 case hIx =>
  rintro c' pre W W' row h hg hr
  exact h
 case body =>
  rintro L pre y W hL _ ⟨h2,o,ho,h3⟩ hnx
  have hw0:=h2.size
  have bdW:=bd.grown h2 (by simp;omega)
  obtain ⟨yi,p⟩:=y
  dsimp only [news,List.foldl]
  refine forgetW (fun V=>W.grownBy V (some (G+1))∧Box V W.heap.size #[.int .i64 p.1,.int .i64 p.2.1,.int .i64 p.2.2.1,.int .i64 p.2.2.2] 61∧Box V (G+1) #[.int .i64 o.1,.int .i64 o.2.1,.int .i64 o.2.2.1,.int .i64 o.2.2.2] 61∧Box V (w.heap.size+1) #[.int .i64 (l1),.int .i64 (l2),.int .i64 (k1),.int .i64 (k2),.int .i64 (g)] 33) ⟨grown_alloc (grown_refl _ _) _,Box.mk rfl,h3.alloc _,bdW.alloc _⟩ ?_
  rintro V ⟨hgV,bpV,boV,bdV⟩
  have hWs:G+1<V.heap.size:=boV.lt
  have hWd:w.heap.size+1<V.heap.size:=bdV.lt
  have hWp:W.heap.size<V.heap.size:=bpV.lt
  have hne:G+1≠W.heap.size:=by omega
  have HB3:=hide (And.intro h2 (And.intro hgV (And.intro bpV (And.intro boV (And.intro bdV h3)))))
  obtain ⟨o0,o1,o2,o3⟩:=boV.c4
  obtain ⟨fo0,fo1,fo2,fo3⟩:=boV.f4
  obtain ⟨p0,p1,p2,p3⟩:=bpV.c4
  have hEnd:∀ (e:Ar) (W3:World),W.grownBy W3 (some (G+1))→Box W3 (G+1) #[.int .i64 e.1,.int .i64 e.2.1,.int .i64 e.2.2.1,.int .i64 e.2.2.2] 61→overStep (l1,l2) (k1,k2) o (yi,p)=e→∀ a',leftN 0 (Keeps (KB w.heap.size (G+1+1) (G+1+1+1) (G+1+1+1+1))) (fun pre W=>wl.grownBy W (some (G+1))∧∃ o:Ar,Hid (pre.foldl (overStep (l1,l2) (k1,k2)) (gasP g)=o)∧Box W (G+1) #[.int .i64 o.1,.int .i64 o.2.1,.int .i64 o.2.2.1,.int .i64 o.2.2.2] 61) (fun _ _ _=>False) (pre++[(yi,p)]) W .normal a' W3:=fun e W3 hg3 hb3 he a' =>
   ⟨others_grown hg3 h3,⟨hg3.size,fun b hb hlt=>hg3.block b hlt (fun e=>by have:=Option.some.inj e;rcases hb with hb | rfl | rfl | rfl <;> omega)⟩,grown_trans h2 hg3,e,hide (by rw [List.foldl_append,ho.out];exact he),hb3⟩
  have HEND:=hide hEnd
  clear h2 h3 bdW hnx bd br bo bw bt ba hB hu hEnd hgV bpV boV bdV
  by_cases hy:yi=0
  · have hyb:(yi==0)=true:=by simp [hy]
    have HE:=hide (show overStep (l1,l2) (k1,k2) o (yi,p)=sum0 [sum0 [o,p],lightP (l1,l2) p,heatP (k1,k2) p] by unfold overStep;rw [if_pos hy])
    clear hy
    gi_wp2_with (refine ⟨trivial,rfl,?_⟩;gi_at_call 190;refine (CallsIn.inRound L (callsIn_wide.2 (fsum2 (o:=o) (p:=p) (Box.mk (by simp))))).mono ?_;rintro _ _ ⟨rfl,_,rfl⟩)
    obtain ⟨e,he⟩:∃ e,sum0 [o,p]=e:=⟨_,rfl⟩
    rw [he] at HE ⊢
    refine forgetW (fun V2=>W.grownBy V2 (some (G+1))∧Box V2 W.heap.size #[.int .i64 p.1,.int .i64 p.2.1,.int .i64 p.2.2.1,.int .i64 p.2.2.2] 61∧Box V2 (G+1) #[.int .i64 e.1,.int .i64 e.2.1,.int .i64 e.2.2.1,.int .i64 e.2.2.2] 61∧Box V2 (w.heap.size+1) #[.int .i64 (l1),.int .i64 (l2),.int .i64 (k1),.int .i64 (k2),.int .i64 (g)] 33) ⟨?_,?_,?_,?_⟩ ?_
    · exact (by repeat (first|with_reducible exact HB3.out.2.1|with_reducible apply grown_ext|with_reducible apply grown_alloc|with_reducible apply grown_drew|with_reducible apply grown_set))
    · exact (Box.viz HB3.out.2.2.1)
    · exact (by (repeat (first|with_reducible apply Box.ext|with_reducible apply Box.alloc|with_reducible apply Box.drew));exact (((((HB3.out.2.2.2.1.set 0 (.int .i64 e.1)).set 1 (.int .i64 e.2.1)).set 2 (.int .i64 e.2.2.1)).set 3 (.int .i64 e.2.2.2))))
    · exact (Box.viz HB3.out.2.2.2.2.1)
    rintro V2 ⟨hg2,bp2,bo2,bd2⟩
    clear o0 o1 o2 o3 fo0 fo1 fo2 fo3 p0 p1 p2 p3 hWs hWd hWp he
    have hWs:=bo2.lt
    have hWd:=bd2.lt
    have hWp:=bp2.lt
    obtain ⟨o0,o1,o2,o3⟩:=bo2.c4
    obtain ⟨fo0,fo1,fo2,fo3⟩:=bo2.f4
    obtain ⟨p0,p1,p2,p3⟩:=bp2.c4
    obtain ⟨d0,d1,d2,d3,d4⟩:=bd2.c5
    have HV2:=hide (And.intro hg2 (And.intro bp2 (And.intro bo2 bd2)))
    have hS0:=hide (show ∃ q,V2.drew=ext V2 q from ⟨_,ext_one V2⟩)
    clear hg2 bp2 bo2 bd2
    have K1:=hide (fun W=>flight_any (l1,l2) (k1,k2) g p W)
    have K2:=hide (fun W=>fheat_any (l1,l2) (k1,k2) g p W)
    generalize lightP (l1,l2) p=LP at *
    generalize heatP (k1,k2) p=HP' at *
    refine wpIn_region_L (fun W=>∃ q,W=ext V2 q) 9 (by kernel_rfl) (by kernel_rfl) (by rintro ⟨_,_,h⟩;exact h) ?_
    refine anyL_take 0 (v:=(.agg #[.int .i64 e.1,.int .i64 e.2.1,.int .i64 e.2.2.1,.int .i64 e.2.2.2])) rfl (by kernel_rfl) (fun _ _ _ h=>h) (.inl ⟨rfl,fun W hW=>?_⟩) hS0.out ?_
    · obtain ⟨q,rfl⟩:=hW
      simp [go_sem,o0,o1,o2,o3,p0,p1,p2,p3,d0,d1,d2,d3,d4,hWs,hWd,hWp]
    simp only [Act.put,List.setIfInBounds_toArray,List.set_cons_zero,List.set_cons_succ]
    refine anyL_take 1 (v:=(.agg #[.int .i64 (l1),.int .i64 (l2),.int .i64 (k1),.int .i64 (k2),.int .i64 (g)])) rfl (by kernel_rfl) (fun _ _ _ h=>h) (.inl ⟨rfl,fun W hW=>?_⟩) hS0.out ?_
    · obtain ⟨q,rfl⟩:=hW
      simp [go_sem,o0,o1,o2,o3,p0,p1,p2,p3,d0,d1,d2,d3,d4,hWs,hWd,hWp]
    simp only [Act.put,List.setIfInBounds_toArray,List.set_cons_zero,List.set_cons_succ]
    refine anyL_take 2 (v:=(.agg #[.int .i64 p.1,.int .i64 p.2.1,.int .i64 p.2.2.1,.int .i64 p.2.2.2])) rfl (by kernel_rfl) (fun _ _ _ h=>h) (.inl ⟨rfl,fun W hW=>?_⟩) hS0.out ?_
    · obtain ⟨q,rfl⟩:=hW
      simp [go_sem,o0,o1,o2,o3,p0,p1,p2,p3,d0,d1,d2,d3,d4,hWs,hWd,hWp]
    simp only [Act.put,List.setIfInBounds_toArray,List.set_cons_zero,List.set_cons_succ]
    refine anyL_take 4 (v:=(.agg #[.int .i64 (l1),.int .i64 (l2),.int .i64 (k1),.int .i64 (k2),.int .i64 (g)])) rfl (by kernel_rfl) (fun _ _ _ h=>h) (.inl ⟨rfl,fun W hW=>?_⟩) hS0.out ?_
    · obtain ⟨q,rfl⟩:=hW
      simp [go_sem,o0,o1,o2,o3,p0,p1,p2,p3,d0,d1,d2,d3,d4,hWs,hWd,hWp]
    simp only [Act.put,List.setIfInBounds_toArray,List.set_cons_zero,List.set_cons_succ]
    refine anyL_take 5 (v:=(.agg #[.int .i64 p.1,.int .i64 p.2.1,.int .i64 p.2.2.1,.int .i64 p.2.2.2])) rfl (by kernel_rfl) (fun _ _ _ h=>h) (.inl ⟨rfl,fun W hW=>?_⟩) hS0.out ?_
    · obtain ⟨q,rfl⟩:=hW
      simp [go_sem,o0,o1,o2,o3,p0,p1,p2,p3,d0,d1,d2,d3,d4,hWs,hWd,hWp]
    simp only [Act.put,List.setIfInBounds_toArray,List.set_cons_zero,List.set_cons_succ]
    refine anyL_one (i:=3) (by kernel_rfl) rfl (fun K HK=>?_)
    go_wp2_with (go_at_call 191;refine (K1.out _).mono ?_;intro _)
    refine HK.out _ _ (fun _=>Up.go) ?_
    clear HK
    refine anyL_one (i:=6) (by kernel_rfl) rfl (fun K HK=>?_)
    go_wp2_with (go_at_call 192;refine (K2.out _).mono ?_;intro _)
    refine HK.out _ _ (fun _=>Up.go) ?_
    clear HK
    refine anyL_one (i:=7) (by kernel_rfl) rfl (fun K HK=>?_)
    go_wp2
    refine HK.out _ _ (fun _=>Up.go) ?_
    clear HK
    refine anyL_one (i:=8) (by kernel_rfl) rfl (fun K HK=>?_)
    go_wp2_with (go_at_call 190;refine (fsum3 (o:=e) (p:=LP) (q:=HP') (Box.mk (by simp))).mono ?_;intro _)
    refine HK.out _ _ (fun _=>Up.go) ?_
    clear HK
    refine forgetW (fun V3=>W.grownBy V3 (some (G+1))∧Box V3 (G+1) #[.int .i64 e.1,.int .i64 e.2.1,.int .i64 e.2.2.1,.int .i64 e.2.2.2] 61) ⟨?_,?_⟩ ?_
    · exact (by repeat (first|with_reducible exact HV2.out.1|with_reducible apply grown_ext|with_reducible apply grown_alloc|with_reducible apply grown_drew|with_reducible apply grown_set))
    · exact (by repeat (first|with_reducible exact HV2.out.2.2.1|with_reducible apply Box.ext|with_reducible apply Box.alloc|with_reducible apply Box.drew))
    rintro V3 ⟨hg3,bo3⟩
    clear o0 o1 o2 o3 fo0 fo1 fo2 fo3 p0 p1 p2 p3 d0 d1 d2 d3 d4 hWs hWd hWp hS0
    have hWs:=bo3.lt
    obtain ⟨o0,o1,o2,o3⟩:=bo3.c4
    obtain ⟨fo0,fo1,fo2,fo3⟩:=bo3.f4
    have HV3:=hide (And.intro hg3 bo3)
    clear hg3 bo3
    refine anyL_one (i:=9) (by kernel_rfl) rfl (fun K HK=>?_)
    go_wp2
    refine HK.out _ _ (fun h=>absurd rfl h) ?_
    clear HK
    refine anyL_done (by kernel_rfl) ?_
    gi_wp2
    exact HEND.out (sum0 [e,LP,HP']) _ (by repeat (first|with_reducible exact HV3.out.1|with_reducible apply grown_ext|with_reducible apply grown_alloc|with_reducible apply grown_drew|with_reducible apply grown_set)) (by (repeat (first|with_reducible apply Box.ext|with_reducible apply Box.alloc|with_reducible apply Box.drew));exact (((((HV3.out.2.set 0 (.int .i64 (sum0 [e,LP,HP']).1)).set 1 (.int .i64 (sum0 [e,LP,HP']).2.1)).set 2 (.int .i64 (sum0 [e,LP,HP']).2.2.1)).set 3 (.int .i64 (sum0 [e,LP,HP']).2.2.2)))) HE.out _
  · have hyb:(yi==0)=false:=by simp [hy]
    have HE:=hide (show overStep (l1,l2) (k1,k2) o (yi,p)=sum0 [o,p] by unfold overStep;rw [if_neg hy])
    clear hy
    gi_wp2_with (refine ⟨trivial,rfl,?_⟩;gi_at_call 190;refine (CallsIn.inRound L (callsIn_wide.2 (fsum2 (o:=o) (p:=p) (Box.mk (by simp))))).mono ?_;rintro _ _ ⟨rfl,_,rfl⟩)
    exact HEND.out (sum0 [o,p]) _ (by repeat (first|with_reducible exact HB3.out.2.1|with_reducible apply grown_ext|with_reducible apply grown_alloc|with_reducible apply grown_drew|with_reducible apply grown_set)) (by (repeat (first|with_reducible apply Box.ext|with_reducible apply Box.alloc|with_reducible apply Box.drew));exact (((((HB3.out.2.2.2.1.set 0 (.int .i64 (sum0 [o,p]).1)).set 1 (.int .i64 (sum0 [o,p]).2.1)).set 2 (.int .i64 (sum0 [o,p]).2.2.1)).set 3 (.int .i64 (sum0 [o,p]).2.2.2)))) HE.out _
 case done =>
  rintro D W hD ⟨h2,o,ho,h3⟩ hK
  have hw0:=h2.size
  have brW:=br.grown h2 (by simp;omega)
  obtain ⟨o0,o1,o2,o3⟩:=h3.c4
  obtain ⟨r0,r1,r2,r3⟩:=brW.c4
  obtain ⟨fr0,fr1,fr2,fr3⟩:=brW.f4
  have hWs:G+1<W.heap.size:=h3.lt
  have hWr:w.heap.size+1+1+1<W.heap.size:=brW.lt
  have hB3:Below w.heap.size w W:=below_of_grown hB h2 (by omega)
  have HG:=hide (And.intro h2 (And.intro h3 brW))
  have HB3:=hide hB3
  have HK:=hide hK
  have HO2:=hide ho.out
  clear h2 h3 brW hK bd br bo bw bt ba hu hB hB3 ho
  gi_wp2
  have hK4:=((((KeepsOthers.setCell W ⟨w.heap.size+1+1+1,0,none⟩ (.int .i64 o.1)).trans (KeepsOthers.setCell _ ⟨w.heap.size+1+1+1,1,none⟩ (.int .i64 o.2.1))).trans (KeepsOthers.setCell _ ⟨w.heap.size+1+1+1,2,none⟩ (.int .i64 o.2.2.1))).trans (KeepsOthers.setCell _ ⟨w.heap.size+1+1+1,3,none⟩ (.int .i64 o.2.2.2))).same D _ HK.out rfl
  refine ⟨by simp,.inl ⟨_,_,rfl,run_takeDeferred hK4,?_⟩⟩
  have q:=((((HG.out.2.2.set 0 (.int .i64 o.1)).set 1 (.int .i64 o.2.1)).set 2 (.int .i64 o.2.2.1)).set 3 (.int .i64 o.2.2.2)).put (D:=D) (by omega) (.deferred none)
  have z0:=q.cell 0 (v:=.int .i64 o.1) rfl
  have z1:=q.cell 1 (v:=.int .i64 o.2.1) rfl
  have z2:=q.cell 2 (v:=.int .i64 o.2.2.1) rfl
  have z3:=q.cell 3 (v:=.int .i64 o.2.2.2) rfl
  have hBF:=below_put ((((HB3.out.setCell (p:=⟨w.heap.size+1+1+1,0,none⟩) (by simp;omega) (.int .i64 o.1)).setCell (p:=⟨w.heap.size+1+1+1,1,none⟩) (by simp;omega) (.int .i64 o.2.1)).setCell (p:=⟨w.heap.size+1+1+1,2,none⟩) (by simp;omega) (.int .i64 o.2.2.1)).setCell (p:=⟨w.heap.size+1+1+1,3,none⟩) (by simp;omega) (.int .i64 o.2.2.2)) (D:=D) (by omega) (.deferred none)
  refine ⟨.tuple #[.agg #[.int .i64 o.1,.int .i64 o.2.1,.int .i64 o.2.2.1,.int .i64 o.2.2.2],.int .i64 0],?_,by rw [HO2.out],hBF⟩
  clear q hBF hK4
  revert z0 z1 z2 z3
  generalize World.putObj _ D _=WF
  intro z0 z1 z2 z3
  simp [results,Tryz.results157,go_sem,z0,z1,z2,z3]
 case stop =>
  rintro D c' pre W hD hpre h hK
  exact h.elim
theorem fOver_any {K:Nat→Prop} {w:World} {a:Option Addr} {n c:Nat} {bs:List Bod} {home:Int} (hl:Bods K w (.slice a n c) bs) (hh:I64 home) (l h:Sp) (g t:Int) (x:Ar) :
 Gives Tryz.prog 157 #[.agg #[.slice a n c,.int .i64 home],.agg #[.int .i64 l.1,.int .i64 l.2,.int .i64 h.1,.int .i64 h.2,.int .i64 g],.int .i64 t,.agg #[.int .i64 x.1,.int .i64 x.2.1,.int .i64 x.2.2.1,.int .i64 x.2.2.2]] w (.tuple #[.agg #[.int .i64 ((overV bs home l h g t x).1).1,.int .i64 ((overV bs home l h g t x).1).2.1,.int .i64 ((overV bs home l h g t x).1).2.2.1,.int .i64 ((overV bs home l h g t x).1).2.2.2],.int .i64 (overV bs home l h g t x).2]):=by
 unfold overV
 by_cases he:askedE bs home l h g t x=0
 · rw [if_pos he]
   exact Calls.mono (callsIn_wide.1 (fOver_in hl hh l h g t x he)) fun _ _ ⟨he,hb⟩=>⟨he,Up.of_below hb⟩
 · rw [if_neg he]
   have heb:(askedE bs home l h g t x != 0)=true:=by simp [he]
   obtain ⟨x0,x1,y0,y1⟩:=x
   have HA:=hide (fun W (hu:Up w W)=>fasked_any (hl.keeps (hu.keeps K)) hh l h g t x0 x1 y0 y1)
   generalize askedE bs home l h g t (x0,x1,y0,y1)=e at *
   clear hl he
   refine Calls.mono (callsIn_wide.1 (?_:CallsIn Fence.wide 0 Tryz.prog 157 _ w fun e' w'=>e'=.returned (.tuple #[.agg #[.int .i64 zA.1,.int .i64 zA.2.1,.int .i64 zA.2.2.1,.int .i64 zA.2.2.2],.int .i64 e])∧Below w.heap.size w w')) fun _ _ ⟨he,hb⟩=>⟨he,Up.of_below hb⟩
   (refine callsIn_of_wp_marks Tryz.func157 rfl trivial ?_ rfl;simp only [Tryz.ntmps157,List.size_toArray,List.length_cons,List.length_nil,Nat.reduceAdd,Nat.reduceSub,Array.replicate_succ,Array.replicate_zero,List.push_toArray,List.append_toArray,List.nil_append,List.cons_append])
   gi_wp2_with (refine ⟨trivial,rfl,?_⟩;gi_at_call 188;refine (callsIn_wide.2 (HA.out _ Up.go)).mono ?_;rintro _ _ ⟨rfl,px,rfl⟩)
   refine ⟨.tuple #[.agg #[.int .i64 zA.1,.int .i64 zA.2.1,.int .i64 zA.2.2.1,.int .i64 zA.2.2.2],.int .i64 e],?_,rfl,Up.below Up.go⟩
   simp [results,Tryz.results157,go_sem,zA]
theorem fPull_any {K:Nat→Prop} {w:World} {a:Option Addr} {n c:Nat} {bs:List Bod} {home:Int} (hl:Bods K w (.slice a n c) bs) (hh:I64 home) (l h:Sp) (g t:Int) (px py:Int) :
 Gives Tryz.prog 115 #[.agg #[.slice a n c,.int .i64 home],.agg #[.int .i64 l.1,.int .i64 l.2,.int .i64 h.1,.int .i64 h.2,.int .i64 g],.int .i64 t,.agg #[.int .i64 px,.int .i64 py]] w (.tuple #[.agg #[.int .i64 ((overV bs home l h g t (px,px,py,py)).1).1,.int .i64 ((overV bs home l h g t (px,px,py,py)).1).2.1,.int .i64 ((overV bs home l h g t (px,px,py,py)).1).2.2.1,.int .i64 ((overV bs home l h g t (px,px,py,py)).1).2.2.2],.int .i64 (overV bs home l h g t (px,px,py,py)).2]):=by
 have HO:=hide (fun W (hu:Up w W)=>fOver_any (hl.keeps (hu.keeps K)) hh l h g t (px,px,py,py))
 generalize overV bs home l h g t (px,px,py,py)=R at *
 clear hl
 (unfold Gives;go_enter Tryz.func115,Tryz.ntmps115)
 go_wp2
 ((first | with_reducible refine wp_region_ext_tail2 2 (by kernel_rfl) (by kernel_rfl) ?_ | refine wp_region_ext_tail 2 (by kernel_rfl) (by kernel_rfl) ?_);simp only [List.length_cons,List.length_nil,Nat.reduceAdd,Nat.reduceSub,List.take_succ_cons,List.take_zero,List.drop_succ_cons,List.drop_zero];(repeat (go_big_quiet_step ((first | (go_at_call 158;with_reducible exact Gives.inRegion (falone_any _ _ _)) | (go_at_call 157;with_reducible exact Gives.inRegion (HO.out _ Up.go))))));refine wpQuiet_nil ?_;intro _ hw';obtain ⟨_,hw''⟩:=hw';subst hw'')
 go_wp2
 (refine forgetW (fun WF=>Up w WF∧Box WF (w.heap.size+1+1+1) #[.int .i64 R.1.1,.int .i64 R.1.2.1,.int .i64 R.1.2.2.1,.int .i64 R.1.2.2.2] 61) ⟨Up.go,Box.go⟩ ?_;rintro WF ⟨huF,hbF⟩;have zF0:=hbF.cell 0 rfl;have zF1:=hbF.cell 1 rfl;have zF2:=hbF.cell 2 rfl;have zF3:=hbF.cell 3 rfl;(refine bodyPost_give huF rfl ⟨_,(by simp [results,Tryz.results115,go_sem,zF0,zF1,zF2,zF3];rfl),?_⟩);rfl)
end Go.Proofs.YteafglginnonnaaGreat
