/- Package force: the bodies and their pulls, handed out one by one. Conditions: what lies in memory. -/
import Derived.Test.YteafglginnonnaaGreatForceG
import Derived.Test.YteafglginnonnaaGreatComb
import Derived.Stop.RegionWithIn
set_option linter.unusedVariables false
set_option linter.unusedSimpArgs false
namespace Go.Proofs.YteafglginnonnaaGreat
open Go.RowKit Go.Shelf
attribute [local go_sem] Oper.semAt_some
theorem fpulls_any (sv:Value) (home t:Int) (x:Ar) (w:World):Calls Tryz.prog 189 #[.agg #[sv,.int .i64 home],.int .i64 t,.agg #[.int .i64 x.1,.int .i64 x.2.1,.int .i64 x.2.2.1,.int .i64 x.2.2.2]] w
 fun e w'=>e=.returned (.func (.func 213) #[] #[.pointer (some ⟨w.heap.size,0,none⟩),.pointer (some ⟨w.heap.size+1,0,none⟩),.pointer (some ⟨w.heap.size+1+1,0,none⟩)]) ∧
  w'=((w.alloc (.cells #[sv,.int .i64 home] 25)).alloc (.cells #[.int .i64 t] 2)).alloc (.cells #[.int .i64 x.1,.int .i64 x.2.1,.int .i64 x.2.2.1,.int .i64 x.2.2.2] 61):=by
 obtain ⟨x0,x1,y0,y1⟩:=x
 go_enter Tryz.func189,Tryz.ntmps189
 go_wp2
 go_ret
 exact ⟨rfl,rfl⟩
def pullsL (t:Int) (x:Ar) (bs:List Bod):List (Int×Ar):=(List.range bs.length).map fun (i:Nat)=>((i:Int),pullB t x (bs.getD i ⟨0,0,[]⟩))
theorem pullsL_at {t:Int} {x:Ar} {bs:List Bod} {k:Nat} (hk:k<bs.length):(pullsL t x bs).take k++[((k:Int),pullB t x (bs.getD k ⟨0,0,[]⟩))]=(pullsL t x bs).take (k+1):=by
 rw [List.take_add_one]
 congr 1
 unfold pullsL
 simp [hk]
theorem pullsL_len (t:Int) (x:Ar) (bs:List Bod):(pullsL t x bs).length=bs.length:=by simp [pullsL]
def KB (B0 c0 c1 c2:Nat) (b:Nat):Prop:=b<B0∨b=c0∨b=c1∨b=c2
def encA (x:Int×Ar):Array Value:=#[.int .i64 x.1,.agg #[.int .i64 x.2.1,.int .i64 x.2.2.1,.int .i64 x.2.2.2.1,.int .i64 x.2.2.2.2]]
theorem yields_all {F:Fence} {m:Nat} {P:Program} {l:Nat} {args:Array Value} {W0:World} {R:Ext→Ending→World→Prop} (h:∀ p:Ext,YieldAt F m P l args (ext W0 p) (R p)) :
 ∃ (fn:Ext→FuncId) (tmps:Ext→Array Value) (assign body:Ext→Code),(∀ p,(Instr.yield l args).run P (ext W0 p)=.ok (.round l (fn p) (tmps p) (assign p) (body p)) (ext W0 p))∧∀ p,RoundIn F m P l (fn p) (tmps p) (assign p) (body p) (ext W0 p) (R p):=by
 obtain ⟨fn,h⟩:=Classical.axiomOfChoice h
 obtain ⟨tmps,h⟩:=Classical.axiomOfChoice h
 obtain ⟨assign,h⟩:=Classical.axiomOfChoice h
 obtain ⟨body,h⟩:=Classical.axiomOfChoice h
 exact ⟨fn,tmps,assign,body,fun p=>(h p).1,fun p=>(h p).2⟩
theorem YieldAt.mono {F:Fence} {m:Nat} {P:Program} {l:Nat} {args:Array Value} {W:World} {R R':Ending→World→Prop} (h:YieldAt F m P l args W R) (hR:∀ e w,R e w→R' e w):YieldAt F m P l args W R' :=
 let ⟨fn,tmps,assign,body,h1,h2⟩:=h;⟨fn,tmps,assign,body,h1,h2.mono hR⟩
set_option maxRecDepth 100000 in
set_option maxHeartbeats 2000000 in
theorem pulls1_seq (B0 c0 c1 c2:Nat) (w:World) {a:Option Addr} {n c:Nat} {bs:List Bod} {home t:Int} (x:Ar) (b0:Box w c0 #[.slice a n c,.int .i64 home] 25) (b1:Box w c1 #[.int .i64 t] 2) (b2:Box w c2 #[.int .i64 x.1,.int .i64 x.2.1,.int .i64 x.2.2.1,.int .i64 x.2.2.2] 61)
 (hl:Bods (·<B0) w (.slice a n c) bs) (hh:I64 home) (hv:worldE bs home=0) (t0:0≤t) (t1:t≤1073741824) :
 SeqN Fence.wide Tryz.prog 213 #[.pointer (some ⟨c0,0,none⟩),.pointer (some ⟨c1,0,none⟩),.pointer (some ⟨c2,0,none⟩)] encA (Keeps (KB B0 c0 c1 c2)) (pullsL t x bs) w:=by
 intro m l J Jx W hlW hW hJ hJx hY hJ0
 have hn:=(Bods.at hl).1
 have hm:=(Bods.at hl).2.1
 have hk0:Keeps (KB B0 c0 c1 c2) w W:=⟨hW.size,fun b _ hb=>hW.block b hb⟩
 have box:∀ {W':World} {b:Nat} {C:Array Value} {T:TypeId},Keeps (KB B0 c0 c1 c2) w W'→KB B0 c0 c1 c2 b→Box w b C T→Box W' b C T:=fun h hb hx=>(h.2 _ hb hx.lt).trans hx
 have g0:=(box hk0 (.inr (.inl rfl)) b0).cell 0 rfl
 have HN:=hide hn
 have HX:=hide (And.intro b0 (And.intro b1 (And.intro b2 hl)))
 have BX:Hid (∀ (W':World) (b:Nat) (C:Array Value) (T:TypeId),Keeps (KB B0 c0 c1 c2) w W'→KB B0 c0 c1 c2 b→Box w b C T→Box W' b C T):=hide fun W' b C T h k hx=>box h k hx
 have HY:=hide hY
 have HJ:=hide (And.intro hJ hJx)
 clear hl b0 b1 b2 hY box hJ hJx hn
 obtain ⟨x0,x1,y0,y1⟩:=x
 (refine callsIn_of_wp Tryz.func213 rfl trivial ?_ rfl;simp only [Tryz.ntmps213,List.size_toArray,List.length_cons,List.length_nil,Nat.reduceAdd,Nat.reduceSub,Array.replicate_succ,Array.replicate_zero,List.push_toArray,List.append_toArray,List.nil_append,List.cons_append])
 gi_wp2
 gi_loopw [9] (fun i wr=>∃ k:Nat,k≤n∧i=.int .i64 k∧Hid (J ((pullsL t (x0,x1,y0,y1) bs).take k) wr)∧Keeps (KB B0 c0 c1 c2) w wr) (fun i _=>n - (intOf i).toNat)
 case atStart=>exact ⟨0,by omega,rfl,hide hJ0,hk0⟩
 case round =>
  obtain ⟨k,hk,rfl,hJk,hK⟩:=hrel
  by_cases hlt:k<n
  · have hkb:decide ((k:Int)<n)=true:=by simp;omega
    have hbl:Bods (·<B0) wr (.slice a n c) bs:=Bods.keeps HX.out.2.2.2 ⟨hK.1,fun b hb h=>hK.2 b (.inl hb) h⟩
    obtain ⟨hvv,k1,k2⟩:=fbody_any hbl hh hv (i:=k) (by rw [← HN.out];exact hlt) t0 t1 (x0,x1,y0,y1)
    obtain ⟨z0,z0'⟩:=(BX.out _ _ _ _ hK (.inr (.inl rfl)) HX.out.1).c2
    have z1:=(BX.out _ _ _ _ hK (.inr (.inr (.inl rfl))) HX.out.2.1).cell 0 rfl
    have bz2:=BX.out _ _ _ _ hK (.inr (.inr (.inr rfl))) HX.out.2.2.1
    obtain ⟨z20,z21,z22,z23⟩:=bz2.c4
    have lz0:=(BX.out _ _ _ _ hK (.inr (.inl rfl)) HX.out.1).lt
    have lz1:=(BX.out _ _ _ _ hK (.inr (.inr (.inl rfl))) HX.out.2.1).lt
    have lz2:=bz2.lt
    have K1:=hide k1
    have K2:=hide k2
    have HKp:=hide hK
    clear k1 k2 hbl bz2 hK hk0
    have hpe:((pullsL t (x0,x1,y0,y1) bs).take k++[((k:Int),pullB t (x0,x1,y0,y1) (bs.getD k ⟨0,0,[]⟩))]) <+: pullsL t (x0,x1,y0,y1) bs:=by
     rw [pullsL_at (by rw [← HN.out];exact hlt)];exact List.take_prefix _ _
    have YP:∀ p:Ext,YieldAt Fence.wide (m - 1) Tryz.prog l (encA ((k:Int),pullB t (x0,x1,y0,y1) (bs.getD k ⟨0,0,[]⟩))) (ext wr p) (fun e W'=>∃ bb:Bool,e=.returned (.bool bb) ∧
     (bb=true→J ((pullsL t (x0,x1,y0,y1) bs).take (k+1)) W'∧Keeps (KB B0 c0 c1 c2) w W')∧(bb=false→Jx ((pullsL t (x0,x1,y0,y1) bs).take (k+1)) W')):=fun p =>
     (HY.out (m - 1) _ _ (ext wr p) (HJ.out.1 _ _ _ none hJk.out (grown_up (grown_refl _ _) ⟨p,rfl⟩) (fun r e=>by cases e)) hpe).mono fun e W' h=>by
      rw [pullsL_at (by rw [← HN.out];exact hlt)] at h
      rcases h with ⟨he,h1,_,h3⟩ | ⟨he,h1,_⟩
      · exact ⟨true,he,(fun _=>⟨h1,(HKp.out.trans (Up.keeps ⟨p,rfl⟩ _)).trans h3⟩),(fun h=>by cases h)⟩
      · exact ⟨false,he,(fun h=>by cases h),fun _=>h1⟩
    obtain ⟨fn,tmps,assign,body,hy,hR⟩:=yields_all YP
    have HR:=hide hR
    rw [show ∀ x:Int×Ar,encA x=#[.int .i64 x.1,.agg #[.int .i64 x.2.1,.int .i64 x.2.2.1,.int .i64 x.2.2.2.1,.int .i64 x.2.2.2.2]] from fun _=>rfl] at hy
    dsimp only at hy
    generalize pullB t (x0,x1,y0,y1) (bs.getD k ⟨0,0,[]⟩)=PB at hy K2
    clear YP hR hpe
    gi_wp2
    gi_region_with (first | (refine ⟨trivial,fun h=>(by cases h),?_⟩;gi_at_call 214;refine (callsIn_wide.2 (K1.out _ Up.go)).mono ?_;rintro _ _ ⟨rfl,_,rfl⟩) | (refine ⟨trivial,fun h=>(by cases h),?_⟩;gi_at_call 215;refine (callsIn_wide.2 (K2.out _)).mono ?_;rintro _ _ ⟨rfl,_,rfl⟩) | (refine ⟨fun h=>(by cases h),(HR.out _).mono ?_⟩;rintro _ W3 ⟨bb,rfl,h1,h2⟩))
    all_goals (
     cases bb
     · have H2:=hide (h2 rfl)
       clear h1 h2
       gi_wp2
       refine bodyPost_ret (results_none rfl _ _ _) rfl ?_
       exact ⟨⟨_,rfl⟩,.inr ⟨_,List.take_prefix _ _,H2.out⟩⟩
     · have H1:=hide (h1 rfl)
       clear h1 h2
       gi_wp2
       go_roundw
       · exact ⟨k+1,by omega,by go_num,hide H1.out.1,H1.out.2⟩
       · simp [intOf];omega)
  · have hkb:decide ((k:Int)<n)=false:=by simp;omega
    have hkb2:decide (k<n)=false:=by simp;omega
    have hkn:k=n:=by omega
    have hJ2:=hJk.out
    rw [List.take_of_length_le (by rw [pullsL_len,← HN.out,hkn];exact Nat.le_refl _)] at hJ2
    have HJ2:=hide hJ2
    clear hJ2
    gi_wp2
    go_end0
    exact ⟨⟨_,rfl⟩,.inl HJ2.out⟩
end Go.Proofs.YteafglginnonnaaGreat
