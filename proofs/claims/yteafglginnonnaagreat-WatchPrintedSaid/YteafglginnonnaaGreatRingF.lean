/- Several texts in one. -/
import Derived.Test.YteafglginnonnaaGreatModk
import Derived.Test.YteafglginnonnaaGreatBox
import Derived.Test.YteafglginnonnaaGreatTail
/- The statements' own source of numbers: a ring of numbers that came in. Conditions: how often it was asked, and that what came in lies as it lay. -/
set_option linter.unusedVariables false
set_option linter.unusedSimpArgs false
namespace Go.Proofs.YteafglginnonnaaGreat
open Go.RowKit
theorem mod_any (n m:Int) (n0:-9223372036854775808≤n) (n1:n≤9223372036854775807) (m0:0<m) (m1:m≤9223372036854775807) (w:World) :
 Gives Tryz.prog 12 #[.int .i64 n,.int .i64 m] w (.int .i64 (n % m)):=by
 by_cases hn:n<0
 · obtain ⟨h1,h2,h3⟩:=tmod_neg n m hn m0
   have H3:=hide h3
   clear h3
   (unfold Gives;go_enter Tryz.func12,Tryz.ntmps12)
   go_wp2
   all_goals (go_ret;refine ⟨ret_int ?_,Up.go⟩)
   all_goals (have h3:=H3.out;(first|rw [if_pos (by omega)] at h3|rw [if_neg (by omega)] at h3);omega)
 · have h1:=Int.emod_nonneg n (show m≠0 by omega)
   have h2:=Int.emod_lt_of_pos n m0
   (unfold Gives;go_enter Tryz.func12,Tryz.ntmps12)
   go_wp2
   all_goals (go_ret;refine ⟨ret_int ?_,Up.go⟩)
   all_goals rfl
def Nums (w:World) (sl:Value):Prop:=sl=.slice none 0 0∨(∃ (a:Addr) (c:Nat),sl=.slice (some a) 0 c)∨∃ (b o n c:Nat),sl=.slice (some ⟨b,o,none⟩) n c∧1≤n∧b<w.heap.size∧n≤9223372036854775807∧∀ i,i<n→∃ z:Int,(-9223372036854775808≤z∧z≤9223372036854775807)∧w.cell? ⟨b,o+i,none⟩=some (.int .i64 z)
def RingPost (W:World) (B:Nat) (t:Int) (lo hi:Int) (e:Ending) (W':World):Prop:=∃ (x:Int) (p:Ext),lo≤x∧x≤hi∧e=.returned (.int .i64 x)∧W'=ext (W.setCell ⟨B,1,none⟩ (.int .i64 t)) p
@[go_sem] theorem set_again (w:World) (b o:Nat) (v v':Value):(w.setCell ⟨b,o,none⟩ v).setCell ⟨b,o,none⟩ v'=w.setCell ⟨b,o,none⟩ v':=by
 unfold World.setCell
 congr 1
 apply Array.ext_getElem?
 intro k
 simp only [Array.getElem?_modify]
 by_cases h:b=k
 · subst h
   simp only [if_true,Option.map_map]
   cases w.heap[b]? with
   | none=>rfl
   | some x=>cases x <;> simp
 · simp [h]
theorem Box.two1 {w:World} {b:Nat} {x y:Value} {t:TypeId} (h:Box w b #[x,y] t) (v:Value):Box (w.setCell ⟨b,1,none⟩ v) b #[x,v] t:=h.set 1 v
theorem up_cell {w W:World} (hu:Up w W) {b o:Nat} (hb:b<w.heap.size):W.cell? ⟨b,o,none⟩=w.cell? ⟨b,o,none⟩:=World.cell?_of_block (hu.below.block b hb)
set_option maxHeartbeats 4000000 in
theorem next_any (w:World) (sl:Value) (hN:Nums w sl) (B:Nat) (t m:Int) (W:World) (hu:Up w W) (hb:Box W B #[sl,.int .i64 t] 98) (hB:w.heap.size≤B) (t0:0≤t) (t1:t≤1000000) (m0:1≤m) (m1:m≤9223372036854775807) :
 Calls Tryz.prog 34 #[.pointer (some ⟨B,0,none⟩),.int .i64 m] W (RingPost W B (t+1) 0 (m - 1)):=by
 obtain ⟨c0,c1⟩:=hb.c2
 have f1:=hb.frozen 1
 have lB:=hb.lt
 have hU:=hide hu
 obtain ⟨X,hX⟩:∃ X,(t+1)*7919 % 10007=X:=⟨_,rfl⟩
 have X0:0≤X:=by omega
 have X1:X<10007:=by omega
 rcases hN with rfl | ⟨a,c,rfl⟩ | ⟨b,o,n,c,rfl,hn1,hbw,hn,hcells⟩
 · clear hu hb
   go_enter Tryz.func34,Tryz.ntmps34
   go_wp2
   go_ret
   exact ⟨_,_,Int.emod_nonneg _ (by omega),(by have:=Int.emod_lt_of_pos X (show 0<m by omega);omega),rfl,ext_refl _⟩
 · clear hu hb
   go_enter Tryz.func34,Tryz.ntmps34
   go_wp2
   go_ret
   exact ⟨_,_,Int.emod_nonneg _ (by omega),(by have:=Int.emod_lt_of_pos X (show 0<m by omega);omega),rfl,ext_refl _⟩
 · have HC:=hide hcells
   clear hcells hb
   · obtain ⟨j,hj,hjn⟩:∃ j:Nat,(t+1) % (n:Int)=j∧j<n:=by
      have h1:=Int.emod_nonneg (t+1) (show (n:Int)≠0 by omega)
      have h2:=Int.emod_lt_of_pos (t+1) (show (0:Int)<n by omega)
      obtain ⟨j,hj⟩:=Int.eq_ofNat_of_zero_le h1
      exact ⟨j,hj,by omega⟩
     obtain ⟨z,⟨z0,z1⟩,hz⟩:=HC.out j hjn
     have cz:W.cell? ⟨b,o+j,none⟩=some (.int .i64 z):=(up_cell hU.out hbw).trans hz
     have hne:b≠B:=by omega
     have hne2:B≠b:=by omega
     have hbW:b<W.heap.size:=by omega
     have j0:(0:Int)≤(j:Int):=by omega
     have j1:(j:Int)<n:=by omega
     obtain ⟨y,hy,y0,y1⟩:∃ y,z % 1048576=y∧0≤y∧y<1048576:=⟨_,rfl,by omega,by omega⟩
     have K:=hide (fun W=>mod_any z 1048576 z0 z1 (by omega) (by omega) W)
     rw [hy] at K
     have q0:0≤(t+1) / (n:Int):=Int.ediv_nonneg (by omega) (by omega)
     have q1:(t+1) / (n:Int)≤1000001:=Int.ediv_le_of_le_mul (by omega) (by
      have:=Int.mul_le_mul_of_nonneg_left (show (1:Int)≤n by omega) (show (0:Int)≤1000001 by omega)
      omega)
     obtain ⟨Q,hQ⟩:∃ Q,(t+1) / (n:Int)=Q:=⟨_,rfl⟩
     rw [hQ] at q0 q1
     have d0:0≤y / (1+Q):=Int.ediv_nonneg (by omega) (by omega)
     have d1:y / (1+Q)≤1048576:=Int.ediv_le_of_le_mul (by omega) (by
      have:=Int.mul_le_mul_of_nonneg_left (show (1:Int)≤1+Q by omega) (show (0:Int)≤1048576 by omega)
      omega)
     obtain ⟨D,hD⟩:∃ D,y / (1+Q)=D:=⟨_,rfl⟩
     rw [hD] at d0 d1
     clear hz hy hu
     go_enter Tryz.func34,Tryz.ntmps34
     go_wp2_with fail
     ((first | with_reducible refine wp_region_ext2 (by kernel_rfl) (by kernel_rfl) ?_ | refine wp_region_ext (by kernel_rfl) (by kernel_rfl) ?_);(repeat (go_big_quiet_step ((go_at_call 12;exact Gives.inRegion (K.out _)))));refine wpQuiet_nil ?_;intro _ hw';obtain ⟨_,hw''⟩:=hw';subst hw'')
     go_wp2
     go_ret
     exact ⟨_,_,Int.emod_nonneg _ (by omega),(by have:=Int.emod_lt_of_pos (X+D) (show 0<m by omega);omega),rfl,rfl⟩
theorem inspan_any (a b n:Int) (h0:-1000000000000≤a) (h1:a≤b) (h2:b≤1000000000000) (n0:-9223372036854775808≤n∧n≤9223372036854775807) :
 ∃ x:Int,a≤x∧x≤b∧∀ w:World,Gives Tryz.prog 71 #[.agg #[.int .i64 a,.int .i64 b],.int .i64 n] w (.int .i64 x):=by
 obtain ⟨u,hu,u0,u1⟩:∃ u,n % (b - a+1)=u∧0≤u∧u<b - a+1:=⟨_,rfl,Int.emod_nonneg _ (by omega),Int.emod_lt_of_pos _ (by omega)⟩
 have K1:=hide (fun W=>mod64_any n (b - a+1) n0.1 n0.2 (by omega) (by omega) W)
 rw [hu] at K1
 clear hu
 refine ⟨a+u,by omega,by omega,fun w=>?_⟩
 (unfold Gives;go_enter Tryz.func71,Tryz.ntmps71)
 go_wp2_with fail
 ((first | with_reducible refine wp_region_ext2 (by kernel_rfl) (by kernel_rfl) ?_ | refine wp_region_ext (by kernel_rfl) (by kernel_rfl) ?_);(repeat (go_big_quiet_step ((go_at_call 120;with_reducible exact Gives.inRegion (K1.out _)))));refine wpQuiet_nil ?_;intro _ hw';obtain ⟨_,hw''⟩:=hw';subst hw'')
 go_wp2
 go_ret
 exact ⟨rfl,Up.go⟩
theorem Nums.form {w:World} {v:Value} (h:Nums w v):∃ (a:Option Addr) (n c:Nat),v=.slice a n c:=by
 rcases h with rfl | ⟨a,c,rfl⟩ | ⟨b,o,n,c,rfl,_⟩ <;> exact ⟨_,_,_,rfl⟩
theorem newring_any (a:Option Addr) (n c:Nat) (w:World):Calls Tryz.prog 9 #[.slice a n c] w
 fun e w'=>e=.returned (.pointer (some ⟨w.heap.size,0,none⟩))∧w'=w.alloc (.cells #[.slice a n c,.int .i64 0] 98):=by
 go_enter Tryz.func9,Tryz.ntmps9
 go_wp2
 go_ret
 exact ⟨rfl,rfl⟩
section
variable {P:Program} {ops:Array Oper} {md:Region.Mode} {U:World→Prop} {B0:Nat} {M:Array Bool} {z:Nat} {al:List (Nat×Nat×Array Value×TypeId)}
def Stays (B0:Nat) (W W':World):Prop:=W.heap.size≤W'.heap.size∧∀ b c t,B0≤b→Box W b c t→Box W' b c t
theorem Stays.ext (B0:Nat) (W:World) (p:Ext):Stays B0 W (ext W p):=⟨by rw [ext_size];omega,fun _ _ _ _ h=>h.ext p⟩
structure Cls (U D:World→Prop):Prop where
 sub:∀ W,D W→U W
 grows:∀ W p,D W→D (ext W p)
def pureAt (P:Program) (o:Oper) (a:Act) (U:World→Prop) (v:Value):Prop:=∀ W,U W→o.quietAt P a (fun w'=>∃ p,w'=ext W p) W v
def movesUpon (P:Program) (B0:Nat) (W:World) (R:Value→Prop) (D':Value→World→Prop):Result Next→Prop
 | .ok (.enter f args) w'=>w'=W∧Calls P f args W (fun e w''=>∃ v,e=.returned v∧R v∧D' v w''∧Stays B0 W w'')
 | _=>False
def fOp (P:Program) (ops:Array Oper) (U:World→Prop) (B0:Nat) (i:Nat) (K:Act→(World→Prop)→Prop) (a:Act) (D:World→Prop):Prop :=
 match ops[i]? with
 | none=>K a D
 | some o =>
  if Region.wanted o (yielded ops a.tmps) then
   (∃ v,pureAt P o a U v∧K (a.put o.dst v) D) ∨
   (∃ R D',(∀ v,R v→Cls U (D' v))∧(∀ W,D W→movesUpon P B0 W R D' ((execOp a.eval o).run P W))∧∀ v,R v→K (a.put o.dst v) (D' v))
  else K (a.put o.dst undef) D
theorem fOp_mono {i:Nat} {K K':Act→(World→Prop)→Prop} {a:Act} {D:World→Prop} (h:∀ a D,K a D→K' a D) (hh:fOp P ops U B0 i K a D):fOp P ops U B0 i K' a D:=by
 unfold fOp at *
 split
 · rename_i ho;simp only [ho] at hh;exact h _ _ hh
 · rename_i o ho
   simp only [ho] at hh
   split
   · rename_i hw
     simp only [hw,if_true] at hh
     rcases hh with ⟨v,h1,h2⟩ | ⟨R,D',h1,h2,h3⟩
     · exact .inl ⟨v,h1,h _ _ h2⟩
     · exact .inr ⟨R,D',h1,h2,fun v hv=>h _ _ (h3 v hv)⟩
   · rename_i hw;simp only [hw] at hh;exact h _ _ hh
abbrev Put:=Nat→Option Nat
def upd (σ:Put) (i g:Nat):Put:=fun j=>if j=i then some g else σ j
def putOne (σ:Put) (a:Act) (x:Nat×Nat×Array Value×TypeId):Act:=match σ x.1 with
 | none=>a
 | some g=>a.put (some x.2.1) (.pointer (some ⟨g,0,none⟩))
def app (al:List (Nat×Nat×Array Value×TypeId)) (σ:Put) (a:Act):Act:=al.foldl (putOne σ) a
theorem app_put (σ:Put):∀ (al:List (Nat×Nat×Array Value×TypeId)) (a:Act) (d:Option Tmp) (v:Value),(∀ x∈al,d≠some x.2.1)→app al σ (a.put d v)=(app al σ a).put d v
 | [],_,_,_,_=>rfl
 | x::al,a,d,v,h=>by
  unfold app
  simp only [List.foldl_cons]
  have e:putOne σ (a.put d v) x=(putOne σ a x).put d v:=by
   unfold putOne
   split
   · rfl
   · exact Act.put_comm a _ _ fun t ht=>by subst ht;intro h2;exact h x (by simp) (by simpa using h2.symm)
  rw [e]
  exact app_put σ al _ d v fun y hy=>h y (by simp [hy])
theorem app_upd (σ:Put) (i g:Nat):∀ (al:List (Nat×Nat×Array Value×TypeId)) (a:Act) (x:Nat×Nat×Array Value×TypeId),x∈al→x.1=i→(al.map (·.1)).Nodup→(al.map (·.2.1)).Nodup→σ i=none →
 app al (upd σ i g) a=(app al σ a).put (some x.2.1) (.pointer (some ⟨g,0,none⟩))
 | y::al,a,x,hx,hi,h1,h2,hn=>by
  simp only [List.map_cons,List.nodup_cons,List.mem_map,not_exists,not_and] at h1 h2
  have rest:∀ (l:List (Nat×Nat×Array Value×TypeId)) (b:Act),(∀ z∈l,z.1≠i)→app l (upd σ i g) b=app l σ b:=fun l=>by
   induction l with
   | nil=>intro b _;rfl
   | cons z l ih =>
    intro b hz
    unfold app
    simp only [List.foldl_cons]
    have e:putOne (upd σ i g) b z=putOne σ b z:=by unfold putOne upd;rw [if_neg (hz z (by simp))]
    rw [e]
    exact ih _ fun u hu=>hz u (by simp [hu])
  rcases List.mem_cons.1 hx with rfl | hx'
  · have e1:putOne (upd σ i g) a x=a.put (some x.2.1) (.pointer (some ⟨g,0,none⟩)):=by unfold putOne upd;rw [if_pos hi]
    have e2:putOne σ a x=a:=by unfold putOne;rw [hi,hn]
    unfold app
    simp only [List.foldl_cons]
    rw [e1,e2]
    show app al (upd σ i g) _=(app al σ a).put _ _
    rw [rest al _ fun z hz hzi=>h1.1 z hz (hzi.trans hi.symm),app_put σ al a _ _ fun z hz he=>h2.1 z hz (Option.some.inj he).symm]
  · have hne:y.1≠i:=fun e=>h1.1 x hx' (hi.trans e.symm)
    have e1:putOne (upd σ i g) a y=putOne σ a y:=by unfold putOne upd;rw [if_neg hne]
    unfold app
    simp only [List.foldl_cons]
    rw [e1]
    exact app_upd σ i g al _ x hx' hi h1.2 h2.2 hn
def Good (al:List (Nat×Nat×Array Value×TypeId)) (B0:Nat) (σ:Put) (W:World):Prop :=
 ∀ x∈al,∀ g,σ x.1=some g→B0≤g∧Box W g x.2.2.1 x.2.2.2∧∀ y∈al,∀ g',σ y.1=some g'→x.1≠y.1→g≠g'
theorem Good.stays {σ:Put} {W W':World} (h:Good al B0 σ W) (hs:Stays B0 W W'):Good al B0 σ W':=fun x hx g hg =>
 let ⟨h1,h2,h3⟩:=h x hx g hg
 ⟨h1,hs.2 _ _ _ h1 h2,h3⟩
def Makes (P:Program) (ops:Array Oper) (x:Nat×Nat×Array Value×TypeId):Prop :=
 ∃ o,ops[x.1]?=some o∧o.dst=some x.2.1∧(∀ y,Region.wanted o y=true)∧∀ (a:Act) (w:World),(execOp a.eval o).run P w=.ok (.value (.pointer (some ⟨w.heap.size,0,none⟩))) (w.alloc (.cells x.2.2.1 x.2.2.2 (0,0)))
def isAl (al:List (Nat×Nat×Array Value×TypeId)) (i:Nat):Bool:=al.any fun x=>x.1==i
theorem isAl_iff {i:Nat}:isAl al i=true↔∃ x∈al,x.1=i:=by simp [isAl]
def LazyEnd (P:Program) (ops:Array Oper) (M:Array Bool) (z:Nat) (al:List (Nat×Nat×Array Value×TypeId)) (L:Array Bool→Act→(World→Prop)→Put→Prop) (listed:Array Bool) (a:Act) (D:World→Prop) (σ:Put):Prop :=
 ∃ oz v,ops[z]?=some oz∧listed=M.setIfInBounds z false∧M.getD z false=true∧isAl al z=false∧Region.wanted oz (yielded ops a.tmps)=true∧(∀ w,(execOp a.eval oz).run P w=.ok (.value v) w)∧L M (a.put oz.dst v) D σ
def anyF (P:Program) (md:Region.Mode) (ops:Array Oper) (U:World→Prop) (B0:Nat) (M:Array Bool) (z:Nat) (al:List (Nat×Nat×Array Value×TypeId)) (L:Array Bool→Act→(World→Prop)→Put→Prop):Nat→Array Bool→Act→(World→Prop)→Put→Prop
 | 0,listed,a,D,σ=>L listed a D σ
 | f+1,listed,a,D,σ=>Region.ready md ops listed≠[]∧∀ i∈Region.ready md ops listed,(M.getD i false=true ∧
  ((isAl al i=true∧∀ g,anyF P md ops U B0 M z al L f (listed.setIfInBounds i true) a D (upd σ i g)) ∨
   (isAl al i=false∧fOp P ops U B0 i (fun a' D'=>anyF P md ops U B0 M z al L f (listed.setIfInBounds i true) a' D' σ) a D))) ∨
  (f=0∧LazyEnd P ops M z al L listed a D σ)
def Clean (ops:Array Oper) (M:Array Bool) (al:List (Nat×Nat×Array Value×TypeId)):Prop :=
 ∀ i o,M.getD i false=true→isAl al i=false→ops[i]?=some o→∀ x∈al,x.2.1 ∉ o.looksAt ops∧o.dst≠some x.2.1
theorem app_same (hsel:∀ (j:Nat) (o:Oper) cs b,ops[j]?=some o→o.op≠.select cs b) {i:Nat} {o:Oper} (ho:ops[i]?=some o) (σ:Put) :
 ∀ (l:List (Nat×Nat×Array Value×TypeId)) (a:Act),(∀ x∈l,x.2.1 ∉ o.looksAt ops)→execOp (app l σ a).eval o=execOp a.eval o∧Region.wanted o (yielded ops (app l σ a).tmps)=Region.wanted o (yielded ops a.tmps)
 | [],_,_=>⟨rfl,rfl⟩
 | x::l,a,h=>by
  have h1:=app_same hsel ho σ l (putOne σ a x) fun y hy=>h y (by simp [hy])
  have e:execOp (putOne σ a x).eval o=execOp a.eval o∧Region.wanted o (yielded ops (putOne σ a x).tmps)=Region.wanted o (yielded ops a.tmps):=by
   unfold putOne
   split
   · exact ⟨rfl,rfl⟩
   · exact ⟨execOp_put o (fun cs b=>hsel i o cs b ho) a _ _ fun d hd=>by cases hd;exact h x (by simp),wanted_put o a _ _ fun d hd=>by cases hd;exact h x (by simp)⟩
  exact ⟨h1.1.trans e.1,h1.2.trans e.2⟩
theorem any_of_anyF {g0:Nat} {L:Array Bool→Act→(World→Prop)→Put→Prop} {Q':Exit→Act→World→Prop} (hsel:∀ (j:Nat) (o:Oper) cs b,ops[j]?=some o→o.op≠.select cs b)
 (hmk:∀ x∈al,Makes P ops x) (hn1:(al.map (·.1)).Nodup) (hn2:(al.map (·.2.1)).Nodup) (hcl:Clean ops M al)
 (hlz:∀ oz,ops[z]?=some oz→(z∈Region.ready md ops (M.setIfInBounds z false)∧Region.free md ops (M.setIfInBounds z false) z=true)∧∀ c v a w,Q' (.panic c) (a.put oz.dst v) w→Q' (.panic c) a w)
 (hL:∀ listed a D σ W,Cls U D→D W→Good al B0 σ W→L listed a D σ→wpAny P md ops Q' g0 listed (app al σ a) W) :
 ∀ (f:Nat) (listed:Array Bool) (a:Act) (D:World→Prop) (σ:Put) (W:World),Cls U D→D W→Good al B0 σ W→B0≤W.heap.size→(∀ x∈al,listed.getD x.1 true=false→σ x.1=none) →
  anyF P md ops U B0 M z al L f listed a D σ→wpAny P md ops Q' (f+g0) listed (app al σ a) W
 | 0,listed,a,D,σ,W,hD,hW,hG,_,_,h=>by rw [Nat.zero_add];exact hL _ _ _ _ _ hD hW hG h
 | f+1,listed,a,D,σ,W,hD,hW,hG,hB,hno,h=>by
  rw [show f+1+g0=(f+g0)+1 by omega]
  by_cases hlazy:f=0∧LazyEnd P ops M z al L listed a D σ
  · obtain ⟨rfl,oz,v,hoz,rfl,hMz,hAz,hwz,hrun,hLz⟩:=hlazy
    obtain ⟨⟨hr,hf⟩,hQ⟩:=hlz oz hoz
    have hc:=hcl z oz hMz hAz hoz
    obtain ⟨e1,e2⟩:=app_same hsel hoz σ al a fun x hx=>(hc x hx).1
    have e3:(app al σ a).put oz.dst v=app al σ (a.put oz.dst v):=(app_put σ al a _ _ fun x hx=>(hc x hx).2).symm
    have eM:(M.setIfInBounds z false).setIfInBounds z true=M:=by
     apply Array.ext_getElem?
     intro k
     by_cases hk:z=k
     · subst hk
       have hlt:z<M.size:=by
        rcases Nat.lt_or_ge z M.size with h' | h'
        · exact h'
        · simp [Array.getElem?_eq_none h'] at hMz
       simp [hlt] at hMz ⊢
       exact hMz
     · simp [Array.getElem?_setIfInBounds_ne hk]
    rw [Nat.zero_add]
    exact wpAny_first hoz hsel (fun c a w=>hQ c v a w) g0 _ _ W (Region.free_spec hoz hf) hr (.inl ⟨by rw [e2];exact hwz,by rw [e1];exact hrun⟩) (by rw [eM,e3];exact hL _ _ _ _ _ hD hW hG hLz)
  refine ⟨fun h0=>absurd h0 h.1,fun i hi=>?_⟩
  obtain ⟨him,h2⟩:=(h.2 i hi).resolve_right hlazy
  have hun:=(mem_ready.1 hi).1
  have hno':∀ σ':Put,(∀ j,j≠i→σ' j=σ j)→∀ x∈al,(listed.setIfInBounds i true).getD x.1 true=false→σ' x.1=none:=fun σ' hσ x hx hl=>by
   by_cases hxi:x.1=i
   · have hlt:i<listed.size:=by
      rcases Nat.lt_or_ge i listed.size with h' | h'
      · exact h'
      · simp [Array.getElem?_eq_none h'] at hun
     rw [hxi] at hl
     simp [hlt] at hl
   · rw [getD_set_ne true (Ne.symm hxi)] at hl
     rw [hσ _ hxi];exact hno x hx hl
  rcases h2 with ⟨ha,h2⟩ | ⟨ha,h2⟩
  · obtain ⟨x,hx,hxi⟩:=isAl_iff.1 ha
    obtain ⟨o,ho,hd,hw,hrun⟩:=hmk x hx
    rw [hxi] at ho
    have hnone:σ i=none:=by have:=hno x hx (by rw [hxi];exact hun);rwa [hxi] at this
    unfold wpOp
    simp only [ho]
    rw [if_pos (hw _)]
    left
    unfold Oper.wp
    rw [hrun]
    simp only [Oper.upon,hd]
    rw [← app_upd σ i W.heap.size al a x hx hxi hn1 hn2 hnone]
    have hst:Stays B0 W (W.alloc (.cells x.2.2.1 x.2.2.2 (0,0))):=by rw [alloc_ext];exact Stays.ext _ _ _
    refine any_of_anyF hsel hmk hn1 hn2 hcl hlz hL f _ a D _ _ hD (by rw [alloc_ext];exact hD.grows _ _ hW) ?_ (Nat.le_trans hB hst.1) (hno' _ fun j hj=>by unfold upd;rw [if_neg hj]) (h2 W.heap.size)
    intro y hy g hg
    unfold upd at hg
    by_cases hyi:y.1=i
    · rw [if_pos hyi] at hg
      obtain rfl:=Option.some.inj hg
      have hxy:y=x:=by
       have:∀ (l:List (Nat×Nat×Array Value×TypeId)),(l.map (·.1)).Nodup→∀ u∈l,∀ v∈l,u.1=v.1→u=v:=fun l=>by
        induction l with
        | nil=>intro _ u hu;cases hu
        | cons z l ih =>
         intro hn u hu v hv he
         simp only [List.map_cons,List.nodup_cons,List.mem_map,not_exists,not_and] at hn
         rcases List.mem_cons.1 hu with hu2 | hu2 <;> rcases List.mem_cons.1 hv with hv2 | hv2
         · exact hu2.trans hv2.symm
         · exact absurd (he.symm.trans (congrArg (·.1) hu2)) (hn.1 v hv2)
         · exact absurd (he.trans (congrArg (·.1) hv2)) (hn.1 u hu2)
         · exact ih hn.2 u hu2 v hv2 he
       exact this al hn1 y hy x hx (hyi.trans hxi.symm)
      subst hxy
      refine ⟨hB,Box.new W _ _,fun z hz g' hg' hne=>?_⟩
      unfold upd at hg'
      rw [if_neg (fun e=>hne (hyi.trans e.symm))] at hg'
      have:=(hG z hz g' hg').2.1.lt
      omega
    · rw [if_neg hyi] at hg
      obtain ⟨g1,g2,g3⟩:=hG y hy g hg
      refine ⟨g1,hst.2 _ _ _ g1 g2,fun z hz g' hg' hne=>?_⟩
      unfold upd at hg'
      by_cases hzi:z.1=i
      · rw [if_pos hzi] at hg'
        obtain rfl:=Option.some.inj hg'
        have:=g2.lt
        omega
      · rw [if_neg hzi] at hg'
        exact g3 z hz g' hg' hne
  · unfold fOp at h2
    unfold wpOp
    cases ho:ops[i]? with
    | none =>
     obtain ⟨_,o,ho',_⟩:=mem_ready.1 hi
     rw [ho] at ho';cases ho'
    | some o =>
     simp only [ho] at h2 ⊢
     have hc:=hcl i o him ha ho
     obtain ⟨e1,e2⟩:=app_same hsel ho σ al a fun x hx=>(hc x hx).1
     have e3:∀ v,(app al σ a).put o.dst v=app al σ (a.put o.dst v):=fun v=>(app_put σ al a _ _ fun x hx=>(hc x hx).2).symm
     rw [e2]
     have keep:∀ v D' W',Cls U D'→D' W'→Stays B0 W W'→anyF P md ops U B0 M z al L f (listed.setIfInBounds i true) (a.put o.dst v) D' σ→wpAny P md ops Q' (f+g0) (listed.setIfInBounds i true) ((app al σ a).put o.dst v) W':=fun v D' W' hD' hW' hs h3=>by
      rw [e3]
      exact any_of_anyF hsel hmk hn1 hn2 hcl hlz hL f _ _ D' σ W' hD' hW' (hG.stays hs) (Nat.le_trans hB hs.1) (hno' σ fun _ _=>rfl) h3
     have same:Stays B0 W W:=⟨Nat.le_refl _,fun _ _ _ _ h=>h⟩
     by_cases hw:Region.wanted o (yielded ops a.tmps)=true
     · rw [if_pos hw] at h2 ⊢
       left
       rcases h2 with ⟨v,h3,h4⟩ | ⟨R,D',hD',h3,h4⟩
       · have h5:=h3 W (hD.sub W hW)
         unfold Oper.quietAt at h5
         unfold Oper.wp
         rw [e1]
         generalize (execOp a.eval o).run P W=r at *
         cases r with
         | ok n w' =>
          cases n <;> simp only [Oper.quietUpon] at h5 <;> simp only [Oper.upon]
          case value u =>
           obtain ⟨rfl,rfl⟩:=h5
           exact keep _ D _ hD hW same h4
          case skip =>
           obtain ⟨rfl,rfl⟩:=h5
           exact keep _ D _ hD hW same h4
          case enter fn args =>
           obtain ⟨rfl,hcall⟩:=h5
           refine hcall.mono fun e w'' ⟨he,p,hp⟩=>?_
           subst he
           subst hp
           exact keep _ D _ hD (hD.grows _ _ hW) (Stays.ext _ _ _) h4
         | halt x w'=>simp only [Oper.quietUpon] at h5
       · have h5:=h3 W hW
         unfold Oper.wp
         rw [e1]
         generalize (execOp a.eval o).run P W=r at *
         cases r with
         | ok n w' =>
          cases n <;> simp only [movesUpon] at h5 <;> simp only [Oper.upon]
          case enter fn args =>
           obtain ⟨rfl,hcall⟩:=h5
           refine hcall.mono fun e w'' ⟨v,he,hR,hDw,hs⟩=>?_
           subst he
           exact keep v (D' v) _ (hD' v hR) hDw hs (h4 v hR)
         | halt x w'=>simp only [movesUpon] at h5
     · rw [if_neg hw] at h2 ⊢
       exact keep _ D _ hD hW same h2
def YieldsP (P:Program) (ops:Array Oper) (U:World→Prop) (o:Oper) (v:Value) (a:Act):Prop :=
 (Region.wanted o (yielded ops a.tmps)=true∧pureAt P o a U v)∨(Region.wanted o (yielded ops a.tmps)=false∧v=undef)
theorem YieldsP.of_same {o:Oper} {v:Value} {a a':Act} (hy:YieldsP P ops U o v a) (he:execOp a'.eval o=execOp a.eval o)
 (hw:Region.wanted o (yielded ops a'.tmps)=Region.wanted o (yielded ops a.tmps)):YieldsP P ops U o v a':=by
 unfold YieldsP pureAt Oper.quietAt at *
 rw [he,hw];exact hy
theorem YieldsP.fOp {i:Nat} {o:Oper} {v:Value} {a:Act} {D:World→Prop} {K:Act→(World→Prop)→Prop} (hi:ops[i]?=some o) (hy:YieldsP P ops U o v a) (h:K (a.put o.dst v) D):fOp P ops U B0 i K a D:=by
 unfold Go.Proofs.YteafglginnonnaaGreat.fOp
 simp only [hi]
 rcases hy with ⟨hw,hv⟩ | ⟨hw,rfl⟩
 · rw [if_pos hw];exact .inl ⟨v,hv,h⟩
 · rw [if_neg (by rw [hw];exact Bool.false_ne_true)];exact h
theorem fOp_put {i j:Nat} {oi oj:Oper} {v:Value} (hj:ops[j]?=some oj) (hap:oi.apart ops oj=true)
 (hsi:∀ cs b,oi.op≠.select cs b) (hsj:∀ cs b,oj.op≠.select cs b) {K:Act→(World→Prop)→Prop} {a:Act} {D:World→Prop}
 (hy:YieldsP P ops U oi v a) (hyz:i=z→Region.wanted oi (yielded ops a.tmps)=true∧∀ w,(execOp a.eval oi).run P w=.ok (.value v) w) (h:fOp P ops U B0 j K (a.put oi.dst v) D) :
 fOp P ops U B0 j (fun a' D'=>(YieldsP P ops U oi v a'∧(i=z→Region.wanted oi (yielded ops a'.tmps)=true∧∀ w,(execOp a'.eval oi).run P w=.ok (.value v) w))∧K (a'.put oi.dst v) D') a D:=by
 obtain ⟨h1,h2,h3⟩:=Oper.apart_spec hap
 have keep:∀ u,YieldsP P ops U oi v (a.put oj.dst u)∧(i=z→Region.wanted oi (yielded ops (a.put oj.dst u).tmps)=true∧∀ w,(execOp (a.put oj.dst u).eval oi).run P w=.ok (.value v) w):=fun u =>
  ⟨hy.of_same (execOp_put oi hsi a oj.dst u h3) (wanted_put oi a oj.dst u h3),fun e=>⟨(wanted_put oi a oj.dst u h3).trans (hyz e).1,by rw [execOp_put oi hsi a oj.dst u h3];exact (hyz e).2⟩⟩
 have ex:=execOp_put oj hsj a oi.dst v h1
 unfold fOp at *
 simp only [hj] at *
 rw [wanted_put oj a oi.dst v h1] at h
 split
 · rename_i hw
   simp only [hw,if_true] at h
   rcases h with ⟨u,hu,hk⟩ | ⟨R,D',hD',hu,hk⟩
   · refine .inl ⟨u,fun W hW=>?_,keep u,by rw [← Act.put_comm a v u h2];exact hk⟩
     have:=hu W hW
     unfold Oper.quietAt at *
     rwa [ex] at this
   · exact .inr ⟨R,D',hD',fun W hW=>by have:=hu W hW;rwa [ex] at this,fun u hR=>⟨keep u,by rw [← Act.put_comm a v u h2];exact hk u hR⟩⟩
 · rename_i hw
   simp only [hw] at h
   exact ⟨keep _,by rw [← Act.put_comm a v undef h2];exact h⟩
def Closed (md:Region.Mode) (ops:Array Oper) (listed:Array Bool):Prop:=∀ j oj,ops[j]?=some oj→listed.getD j false=true→∀ e∈oj.after,Region.binds md e=true→listed.getD e.on false=true
theorem Closed.set {listed:Array Bool} (h:Closed md ops listed) {i:Nat} (hi:i∈Region.ready md ops listed):Closed md ops (listed.setIfInBounds i true):=fun j oj hj hl e he hb=>by
 obtain ⟨_,oi,hoi,hall⟩:=mem_ready.1 hi
 by_cases hij:i=j
 · subst hij
   obtain rfl:oj=oi:=Option.some.inj (hj.symm.trans hoi)
   exact getD_set_true (hall e he hb)
 · rw [getD_set_ne false hij] at hl
   exact getD_set_true (h j oj hj hl e he hb)
theorem anyF_first {i:Nat} {oi:Oper} {v:Value} {L:Array Bool→Act→(World→Prop)→Put→Prop} (hi:ops[i]?=some oi) (hal:isAl al i=false) (hsel:∀ (j:Nat) (o:Oper) cs b,ops[j]?=some o→o.op≠.select cs b)
 (him:M.getD i false=true) (hlone:(∃ k,k≠i∧M.getD k false=true∧Region.waitsFor md ops k i=true)∨∀ j∈Region.ready md ops (M.setIfInBounds i false),j=i∨i=z)
 (hlone2:i=z∨(∃ k,k≠i∧k≠z∧M.getD k false=true∧Region.waitsFor md ops k i=true)∨∀ j∈Region.ready md ops ((M.setIfInBounds z false).setIfInBounds i false),M.getD j false=true) (hdone:∀ listed a D σ,L listed a D σ→listed=M) :
 ∀ (f:Nat) (listed:Array Bool) (a:Act) (D:World→Prop) (σ:Put),Closed md ops listed →
  (∀ j oj,ops[j]?=some oj→j≠i→listed.getD j true=false→(∀ e∈oj.after,Region.binds md e=true→e.on≠i)→oi.apart ops oj=true) →
  i∈Region.ready md ops listed→YieldsP P ops U oi v a→(i=z→Region.wanted oi (yielded ops a.tmps)=true∧∀ w,(execOp a.eval oi).run P w=.ok (.value v) w) →
  anyF P md ops U B0 M z al L f (listed.setIfInBounds i true) (a.put oi.dst v) D σ→anyF P md ops U B0 M z al L (f+1) listed a D σ:=by
 intro f
 induction f with
 | zero =>
  intro listed a D σ hcl _ hr hy hyz H
  have hun:=(mem_ready.1 hr).1
  refine ⟨fun h=>(by rw [h] at hr;cases hr),fun j hj=>?_⟩
  have e1:listed=M.setIfInBounds i false:=by
   rw [← hdone _ _ _ _ H]
   apply Array.ext_getElem?
   intro k
   by_cases hk:i=k
   · subst hk
     have hlt:i<listed.size:=by
      rcases Nat.lt_or_ge i listed.size with h' | h'
      · exact h'
      · simp [Array.getElem?_eq_none h'] at hun
     simp [hlt] at hun ⊢
     exact hun
   · simp [Array.getElem?_setIfInBounds_ne hk]
  have hji:j=i∨i=z:=by
   rcases hlone with ⟨k,hk,hM,hw⟩ | hlone
   · obtain ⟨ok,hok,e,he,hb,hon⟩:=Region.waitsFor_spec hw
     have hlk:listed.getD k false=true:=by
      rw [e1]
      rw [show (M.setIfInBounds i false).getD k false=M.getD k false by simp [Array.getElem?_setIfInBounds_ne (Ne.symm hk)]]
      exact hM
     have:=hcl k ok hok hlk e he hb
     rw [hon,getD_both hun] at this
     cases this
   · exact hlone j (e1▸hj)
  by_cases hji':j=i
  · subst hji'
    exact .inl ⟨him,.inr ⟨hal,hy.fOp hi H⟩⟩
  · have hiz:=hji.resolve_left hji'
    obtain ⟨h1,h2⟩:=hyz hiz
    refine .inr ⟨rfl,oi,v,hiz▸hi,by rw [← hiz];exact e1,by rw [← hiz];exact him,by rw [← hiz];exact hal,h1,h2,?_⟩
    have:=hdone _ _ _ _ H
    rw [← this]
    exact H
 | succ f ih =>
  intro listed a D σ hcl hfree hr hy hyz H
  have hun:=(mem_ready.1 hr).1
  refine ⟨fun h=>(by rw [h] at hr;cases hr),fun j hj=>?_⟩
  by_cases hji:j=i
  · subst hji;exact .inl ⟨him,.inr ⟨hal,hy.fOp hi H⟩⟩
  · obtain ⟨hjun,oj,hoj,hall⟩:=mem_ready.1 hj
    have hnot:∀ e∈oj.after,Region.binds md e=true→e.on≠i:=fun e he hb heq=>by
     have h1:=hall e he hb
     rw [heq,getD_both hun] at h1
     cases h1
    have hfree':∀ k ok,ops[k]?=some ok→k≠i→(listed.setIfInBounds j true).getD k true=false →
     (∀ e∈ok.after,Region.binds md e=true→e.on≠i)→oi.apart ops ok=true:=fun k ok hk hki hun hno=>by
     refine hfree k ok hk hki ?_ hno
     by_cases hjk:j=k
     · subst hjk;exact hjun
     · rw [getD_set_ne true hjk] at hun;exact hun
    have hcomm:(listed.setIfInBounds j true).setIfInBounds i true=(listed.setIfInBounds i true).setIfInBounds j true:=Array.setIfInBounds_comm _ _ hji
    have hltu:i<listed.size:=by
     rcases Nat.lt_or_ge i listed.size with h' | h'
     · exact h'
     · simp [Array.getElem?_eq_none h'] at hun
    have hyz':∀ u,i=z→Region.wanted oi (yielded ops (a.put oj.dst u).tmps)=true∧∀ w,(execOp (a.put oj.dst u).eval oi).run P w=.ok (.value v) w:=fun u hiz=>by
     obtain ⟨_,_,h3⟩:=Oper.apart_spec (hfree j oj hoj hji hjun hnot)
     obtain ⟨q1,q2⟩:=hyz hiz
     exact ⟨(wanted_put oi a oj.dst u h3).trans q1,by rw [execOp_put oi (fun cs b=>hsel i oi cs b hi) a oj.dst u h3];exact q2⟩
    rcases H.2 j (ready_mono hj hji) with ⟨hMj,h12⟩ | ⟨hf0,oz,vz,hoz,hM,hMz,hAz,hwz,hrz,hLz⟩
    rotate_left
    · subst hf0
      have hiz:i≠z:=fun e=>by
       subst e
       have h1:(listed.setIfInBounds i true).getD i false=(M.setIfInBounds i false).getD i false:=by rw [hM]
       have hltM:i<M.size:=by
        have:(listed.setIfInBounds i true).size=(M.setIfInBounds i false).size:=by rw [hM]
        simp at this
        omega
       simp [hltu,hltM] at h1
      have e1:listed=(M.setIfInBounds z false).setIfInBounds i false:=by
       rw [← hM]
       apply Array.ext_getElem?
       intro k
       by_cases hk:i=k
       · subst hk
         simp [hltu] at hun ⊢
         exact hun
       · simp [Array.getElem?_setIfInBounds_ne hk]
      have hkeep:∀ k,k≠i→k≠z→listed.getD k false=M.getD k false:=fun k h1 h2=>by
       rw [e1]
       simp [Array.getElem?_setIfInBounds_ne (Ne.symm h1),Array.getElem?_setIfInBounds_ne (Ne.symm h2)]
      rcases hlone2 with h2 | ⟨k,k1,k2,k3,k4⟩ | h2
      · exact absurd h2 hiz
      · obtain ⟨ok,hok,e,he,hb,hon⟩:=Region.waitsFor_spec k4
        have:=hcl k ok hok (by rw [hkeep k k1 k2];exact k3) e he hb
        rw [hon,getD_both hun] at this
        cases this
      · have hMj:=h2 j (e1▸hj)
        by_cases hjz:j=z
        · subst hjz
          obtain rfl:oj=oz:=Option.some.inj (hoj.symm.trans hoz)
          have hap:=hfree j oj hoj hji hjun hnot
          obtain ⟨g1,g2,g3⟩:=Oper.apart_spec hap
          have ex:=execOp_put oj (fun cs b=>hsel j oj cs b hoj) a oi.dst v g1
          have ew:=wanted_put (ops:=ops) oj a oi.dst v g1
          rw [ex] at hrz
          rw [ew] at hwz
          refine .inl ⟨hMj,.inr ⟨hAz,?_⟩⟩
          have hyj:YieldsP P ops U oj vz a:=.inl ⟨hwz,fun W _=>by unfold Oper.quietAt;rw [hrz];exact ⟨rfl,rfl⟩⟩
          refine hyj.fOp hoj (ih _ _ _ _ (hcl.set hj) hfree' (ready_mono hr (Ne.symm hji)) (hy.of_same (execOp_put oi (fun cs b=>hsel i oi cs b hi) a oj.dst vz g3) (wanted_put oi a oj.dst vz g3)) (hyz' vz) ?_)
          have hlast:(listed.setIfInBounds j true).setIfInBounds i true=M:=by
           rw [hcomm,hM]
           apply Array.ext_getElem?
           intro k
           by_cases hk:j=k
           · subst hk
             have hlt:j<M.size:=by
              rcases Nat.lt_or_ge j M.size with h' | h'
              · exact h'
              · simp [Array.getElem?_eq_none h'] at hMz
             simp [hlt] at hMz ⊢
             exact hMz
           · simp [Array.getElem?_setIfInBounds_ne hk]
          show anyF P md ops U B0 M j al L 0 _ _ D σ
          rw [hlast,← Act.put_comm a v vz g2]
          exact hLz
        · have:=hkeep j hji hjz
          rw [hMj,getD_both hjun] at this
          cases this
    refine .inl ⟨hMj,?_⟩
    rcases h12 with ⟨ha,h1⟩ | ⟨ha,h1⟩
    · exact .inl ⟨ha,fun g=>ih _ _ _ _ (hcl.set hj) hfree' (ready_mono hr (Ne.symm hji)) hy hyz (by rw [hcomm];exact h1 g)⟩
    · refine .inr ⟨ha,?_⟩
      have h2:=fOp_put hoj (hfree j oj hoj hji hjun hnot) (fun cs b=>hsel i oi cs b hi) (fun cs b=>hsel j oj cs b hoj) hy hyz h1
      refine fOp_mono (fun a' D' h3=>ih (listed.setIfInBounds j true) a' D' σ (hcl.set hj) hfree' (ready_mono hr (Ne.symm hji)) h3.1.1 h3.1.2 ?_) h2
      rw [hcomm]
      exact h3.2
def walkF (P:Program) (ops:Array Oper) (U:World→Prop) (B0:Nat) (z:Nat) (mv:Nat→Bool) (E:Act→(World→Prop)→Prop):List (Nat×Oper)→Act→(World→Prop)→Prop
 | [],a,D=>E a D
 | (k,o)::l,a,D =>
  if Region.wanted o (yielded ops a.tmps) then
   (if mv k then ∃ R D',(∀ v,R v→Cls U (D' v))∧(∀ W,D W→movesUpon P B0 W R D' ((execOp a.eval o).run P W))∧∀ v,R v→walkF P ops U B0 z mv E l (a.put o.dst v) (D' v)
    else ∃ v,pureAt P o a U v∧(k=z→∀ w,(execOp a.eval o).run P w=.ok (.value v) w)∧walkF P ops U B0 z mv E l (a.put o.dst v) D)
  else walkF P ops U B0 z mv E l (a.put o.dst undef) D
theorem walkF_mono {mv:Nat→Bool} {E E':Act→(World→Prop)→Prop} (h:∀ a D,E a D→E' a D):∀ (l:List (Nat×Oper)) (a:Act) (D:World→Prop),walkF P ops U B0 z mv E l a D→walkF P ops U B0 z mv E' l a D
 | [],a,D,hh=>h a D hh
 | (k,o)::l,a,D,hh=>by
  simp only [walkF] at hh ⊢
  split
  · rename_i hw
    rw [if_pos hw] at hh
    split
    · rename_i hm
      rw [if_pos hm] at hh
      obtain ⟨R,D',h1,h2,h3⟩:=hh
      exact ⟨R,D',h1,h2,fun v hv=>walkF_mono h l _ _ (h3 v hv)⟩
    · rename_i hm
      rw [if_neg hm] at hh
      obtain ⟨v,h1,h0,h2⟩:=hh
      exact ⟨v,h1,h0,walkF_mono h l _ _ h2⟩
  · rename_i hw
    rw [if_neg hw] at hh
    exact walkF_mono h l _ _ hh
def withOps (ops:Array Oper) (ord:List Nat):List (Nat×Oper):=ord.filterMap fun k=>(ops[k]?).map (k,·)
def ordB (md:Region.Mode) (ops:Array Oper) (al:List (Nat×Nat×Array Value×TypeId)) (mv:Nat→Bool) (M:Array Bool):Nat→List Nat→Array Bool→Bool
 | 0,l,listed=>l.isEmpty&&((al.all fun x=>listed.getD x.1 false)&&decide (listed=M))
 | f+1,[],listed=>!(Region.ready md ops listed).isEmpty&&(Region.ready md ops listed).all fun i=>(isAl al i&&M.getD i false)&&ordB md ops al mv M f [] (listed.setIfInBounds i true)
 | f+1,k::l,listed=>(((!isAl al k)&&M.getD k false)&&(Region.ready md ops listed).contains k) &&
  ((if mv k then (Region.ready md ops listed).all fun i=>i==k || ((isAl al i&&M.getD i false)&&ordB md ops al mv M f (k::l) (listed.setIfInBounds i true)) else Region.free md ops listed k) &&
   ordB md ops al mv M f l (listed.setIfInBounds k true))
def loneB (md:Region.Mode) (ops:Array Oper) (M:Array Bool) (z:Nat):Bool:=(List.range ops.size).all fun i=>!M.getD i false ||
 ((((List.range ops.size).any fun k=>(k != i&&M.getD k false)&&Region.waitsFor md ops k i) || (Region.ready md ops (M.setIfInBounds i false)).all fun j=>j==i || i==z) &&
  (i==z || (((List.range ops.size).any fun k=>(k != i&&(k != z&&M.getD k false))&&Region.waitsFor md ops k i) || (Region.ready md ops ((M.setIfInBounds z false).setIfInBounds i false)).all fun j=>M.getD j false)))
def lazyB (md:Region.Mode) (ops:Array Oper) (M:Array Bool) (z:Nat):Bool:=decide (ops.size≤z) || ((Region.ready md ops (M.setIfInBounds z false)).contains z&&Region.free md ops (M.setIfInBounds z false) z)
theorem anyF_lex {mv:Nat→Bool} {E:Act→(World→Prop)→Prop} (hsel:∀ (j:Nat) (o:Oper) cs b,ops[j]?=some o→o.op≠.select cs b)
 (hms:M.size=ops.size) (hlone:loneB md ops M z=true) (hg:∀ oz,ops[z]?=some oz→∀ y,Region.wanted oz y=true) :
 ∀ (f:Nat) (l:List Nat) (listed:Array Bool) (a:Act) (D:World→Prop) (σ:Put),Closed md ops listed→(∀ x∈al,listed.getD x.1 false=true→∃ g,σ x.1=some g)→ordB md ops al mv M f l listed=true →
  walkF P ops U B0 z mv E (withOps ops l) a D→anyF P md ops U B0 M z al (fun listed a D σ=>listed=M∧(∀ x∈al,∃ g,σ x.1=some g)∧E a D) f listed a D σ:=by
 have upd_ok:∀ (listed:Array Bool) (σ:Put) (i g:Nat),(∀ x∈al,listed.getD x.1 false=true→∃ g,σ x.1=some g)→∀ x∈al,(listed.setIfInBounds i true).getD x.1 false=true→∃ g',upd σ i g x.1=some g':=fun listed σ i g h x hx hl=>by
  unfold upd
  by_cases hxi:x.1=i
  · exact ⟨g,by rw [if_pos hxi]⟩
  · rw [if_neg hxi]
    rw [getD_set_ne false (Ne.symm hxi)] at hl
    exact h x hx hl
 have set_ok:∀ (listed:Array Bool) (σ:Put) (i:Nat),isAl al i=false→(∀ x∈al,listed.getD x.1 false=true→∃ g,σ x.1=some g)→∀ x∈al,(listed.setIfInBounds i true).getD x.1 false=true→∃ g',σ x.1=some g':=fun listed σ i hi h x hx hl=>by
  have hxi:x.1≠i:=fun e=>by rw [isAl_iff.2 ⟨x,hx,e⟩] at hi;cases hi
  rw [getD_set_ne false (Ne.symm hxi)] at hl
  exact h x hx hl
 have lone:∀ i,M.getD i false=true→((∃ k,k≠i∧M.getD k false=true∧Region.waitsFor md ops k i=true)∨∀ j∈Region.ready md ops (M.setIfInBounds i false),j=i∨i=z) ∧
  (i=z∨(∃ k,k≠i∧k≠z∧M.getD k false=true∧Region.waitsFor md ops k i=true)∨∀ j∈Region.ready md ops ((M.setIfInBounds z false).setIfInBounds i false),M.getD j false=true):=fun i hi=>by
  have hs:i<ops.size:=by
   refine Nat.lt_of_lt_of_le ?_ (Nat.le_of_eq hms)
   rcases Nat.lt_or_ge i M.size with h' | h'
   · exact h'
   · simp [Array.getElem?_eq_none h'] at hi
  have h1:=List.all_eq_true.1 hlone i (List.mem_range.2 hs)
  rw [hi] at h1
  simp only [Bool.not_true,Bool.false_or,Bool.or_eq_true,List.any_eq_true,Bool.and_eq_true,bne_iff_ne,List.all_eq_true,beq_iff_eq] at h1
  obtain ⟨h1,h2⟩:=h1
  refine ⟨?_,?_⟩
  · rcases h1 with ⟨k,_,⟨hk,hM⟩,hw⟩ | h1
    · exact .inl ⟨k,hk,hM,hw⟩
    · exact .inr h1
  · rcases h2 with h2 | ⟨k,_,⟨hk,hkz,hM⟩,hw⟩ | h2
    · exact .inl h2
    · exact .inr (.inl ⟨k,hk,hkz,hM,hw⟩)
    · exact .inr (.inr h2)
 intro f
 induction f with
 | zero =>
  intro l listed a D σ hcl hσ hB h
  simp only [ordB,Bool.and_eq_true,List.isEmpty_iff,List.all_eq_true,decide_eq_true_eq] at hB
  obtain ⟨rfl,h1,h2⟩:=hB
  exact ⟨h2,fun x hx=>hσ x hx (h1 x hx),h⟩
 | succ f ih =>
  intro l listed a D σ hcl hσ hB h
  cases l with
  | nil =>
   simp only [ordB,Bool.and_eq_true,Bool.not_eq_true',List.all_eq_true] at hB
   obtain ⟨h1,h2⟩:=hB
   refine ⟨fun h0=>(by rw [h0] at h1;cases h1),fun i hi=>?_⟩
   obtain ⟨⟨h3,h4⟩,h5⟩:=h2 i hi
   exact .inl ⟨h4,.inl ⟨h3,fun g=>ih [] _ a D _ (hcl.set hi) (upd_ok listed σ i g hσ) h5 h⟩⟩
  | cons k l =>
   simp only [ordB,Bool.and_eq_true,Bool.not_eq_true',List.contains_iff_mem] at hB
   obtain ⟨⟨⟨h1,h2⟩,h3⟩,h4,h5⟩:=hB
   obtain ⟨_,o,ho,_⟩:=mem_ready.1 h3
   rw [show withOps ops (k::l)=(k,o)::withOps ops l by simp [withOps,ho]] at h
   have rest:∀ a' D',walkF P ops U B0 z mv E (withOps ops l) a' D'→anyF P md ops U B0 M z al _ f (listed.setIfInBounds k true) a' D' σ:=fun a' D' hh=>ih l _ a' D' σ (hcl.set h3) (set_ok listed σ k h1 hσ) h5 hh
   by_cases hmv:mv k=true
   · rw [if_pos hmv] at h4
     simp only [List.all_eq_true,Bool.or_eq_true,beq_iff_eq,Bool.and_eq_true] at h4
     refine ⟨fun h0=>(by rw [h0] at h3;cases h3),fun i hi=>?_⟩
     rcases h4 i hi with rfl | ⟨⟨h6,h7⟩,h8⟩
     · refine .inl ⟨h2,.inr ⟨h1,?_⟩⟩
       simp only [walkF] at h
       unfold fOp
       simp only [ho]
       by_cases hw:Region.wanted o (yielded ops a.tmps)=true
       · rw [if_pos hw,if_pos hmv] at h
         rw [if_pos hw]
         obtain ⟨R,D',hD',hu,hk⟩:=h
         exact .inr ⟨R,D',hD',hu,fun v hv=>rest _ _ (hk v hv)⟩
       · rw [if_neg hw] at h ⊢
         exact rest _ _ h
     · exact .inl ⟨h7,.inl ⟨h6,fun g=>ih (k::l) _ a D _ (hcl.set hi) (upd_ok listed σ i g hσ) h8 (by rw [show withOps ops (k::l)=(k,o)::withOps ops l by simp [withOps,ho]];exact h)⟩⟩
   · rw [if_neg hmv] at h4
     simp only [walkF] at h
     have first:=fun v (hy:YieldsP P ops U o v a) (hyz:k=z→Region.wanted o (yielded ops a.tmps)=true∧∀ w,(execOp a.eval o).run P w=.ok (.value v) w) hh=>anyF_first (P:=P) (U:=U) (B0:=B0) (z:=z) (al:=al) (L:=fun listed a D σ=>listed=M∧(∀ x∈al,∃ g,σ x.1=some g)∧E a D) ho h1 hsel h2 (lone k h2).1 (lone k h2).2
      (fun listed a D σ hL=>hL.1) f listed a D σ hcl (Region.free_spec ho h4) h3 hy hyz hh
     by_cases hw:Region.wanted o (yielded ops a.tmps)=true
     · rw [if_pos hw,if_neg hmv] at h
       obtain ⟨v,hv,hz,hk⟩:=h
       exact first v (.inl ⟨hw,hv⟩) (fun e=>⟨hw,hz e⟩) (rest _ _ hk)
     · rw [if_neg hw] at h
       exact first undef (.inr ⟨by simpa using hw,rfl⟩) (fun e=>absurd (hg o (e▸ho) _) hw) (rest _ _ h)
def cleanB (ops:Array Oper) (M:Array Bool) (al:List (Nat×Nat×Array Value×TypeId)):Bool :=
 (List.range ops.size).all fun i=>!M.getD i false || (isAl al i || match ops[i]? with
  | some o=>al.all fun x=>!(o.looksAt ops).contains x.2.1&&o.dst != some x.2.1
  | none=>true)
theorem cleanB_spec (h:cleanB ops M al=true):Clean ops M al:=fun i o him hal ho x hx=>by
 have h1:=List.all_eq_true.1 h i (List.mem_range.2 (Array.getElem?_eq_some_iff.1 ho).1)
 rw [hal,ho,him] at h1
 simp only [Bool.false_or,Bool.not_true] at h1
 have h2:=List.all_eq_true.1 h1 x hx
 simp only [Bool.and_eq_true,Bool.not_eq_true',bne_iff_ne] at h2
 refine ⟨fun hc=>?_,h2.2⟩
 have:(o.looksAt ops).contains x.2.1=true:=by simpa using hc
 rw [this] at h2
 exact absurd h2.1 (by simp)
def maskOf (n:Nat) (al:List (Nat×Nat×Array Value×TypeId)) (ord:List Nat):Array Bool:=(al.map (·.1)++ord).foldl (fun l i=>l.setIfInBounds i true) (Array.replicate n false)
def floatB (ops:Array Oper) (al:List (Nat×Nat×Array Value×TypeId)) (z:Nat) (mv:Nat→Bool) (ord:List Nat):Bool :=
 ((Region.noSelect ops&&decide (ord.length+al.length≤ops.size))&&(decide ((maskOf ops.size al ord).size=ops.size)&&(loneB .any ops (maskOf ops.size al ord) z&&lazyB .any ops (maskOf ops.size al ord) z))) &&
  ((decide (al.map (·.1)).Nodup&&decide (al.map (·.2.1)).Nodup)&&(cleanB ops (maskOf ops.size al ord) al&&ordB .any ops al mv (maskOf ops.size al ord) (ord.length+al.length) ord (Array.replicate ops.size false)))
theorem wp_region_floatT {id:Nat} {Q:Exit→Act→World→Prop} {a:Act} {w:World} {l:List Oper} {D0:World→Prop} {mv:Nat→Bool} (ord:List Nat) (hm:P.follows .mixedOrders=true) (hB:floatB l.toArray al z mv ord=true) (hg:∀ oz,l[z]?=some oz→∀ y,Region.wanted oz y=true) (hQ:∀ oz,l[z]?=some oz→∀ c v a w,Q (.panic c) (a.put oz.dst v) w→Q (.panic c) a w)
 (hmk:∀ x∈al,Makes P l.toArray x) (hD:Cls U D0) (hD0:D0 w.drew) (hB0:B0≤w.heap.size)
 (h:walkF P l.toArray U B0 z mv (fun a' D'=>∀ σ W,(∀ x∈al,∃ g,σ x.1=some g)→D' W→Good al B0 σ W→wpAny P .any l.toArray Q (l.length - (ord.length+al.length)) (maskOf l.length al ord) (app al σ a') W) (withOps l.toArray ord) a D0):(Code.region id l.toArray true).wp P Q a w:=by
 simp only [floatB,Bool.and_eq_true,decide_eq_true_eq] at hB
 obtain ⟨⟨⟨hsel,hlen⟩,hms,hlone,hlaz⟩,⟨hn1,hn2⟩,hcl,hord⟩:=hB
 have hsel':=fun (j:Nat) (o:Oper) cs b ho=>Region.noSelect_spec (ops:=l.toArray) hsel j o cs b ho
 have H:=anyF_lex (P:=P) (U:=U) (B0:=B0) (σ:=fun _=>none) hsel' hms hlone (fun oz h=>hg oz (by simpa using h)) _ ord _ a D0 (fun j oj _ hl=>(by rw [getD_replicate_false] at hl;cases hl)) (fun x _ hl=>by rw [getD_replicate_false] at hl;cases hl) hord h
 refine wp_region_any hm ?_
 have R:=any_of_anyF (Q':=Q) (g0:=l.toArray.size - (ord.length+al.length)) hsel' hmk hn1 hn2 (cleanB_spec hcl) (fun oz hoz=>by
  have hlt:=(Array.getElem?_eq_some_iff.1 hoz).1
  simp only [lazyB,Bool.or_eq_true,decide_eq_true_eq,Bool.and_eq_true,List.contains_iff_mem] at hlaz
  rcases hlaz with h | h
  · omega
  · exact ⟨h,hQ oz (by simpa using hoz)⟩) (fun listed a' D' σ W hD' hW hG hL=>by
  obtain ⟨rfl,h2,h3⟩:=hL
  exact h3 σ W h2 hW hG) _ _ _ _ _ w.drew hD hD0 (fun x _ g hg=>by cases hg) hB0 (fun _ _ _=>rfl) H
 have e0:app al (fun _=>none) a=a:=by
  have:∀ (al:List (Nat×Nat×Array Value×TypeId)),app al (fun _=>none) a=a:=fun al=>by
   induction al with
   | nil=>rfl
   | cons x al ih=>exact ih
  exact this al
 rw [e0,show ord.length+al.length+(l.toArray.size - (ord.length+al.length))=l.toArray.size by omega] at R
 exact R
def tailB (ops:Array Oper):List Nat→Array Bool→Bool
 | [],listed=>(Region.ready .any ops listed).isEmpty
 | k::l,listed=>decide (Region.ready .any ops listed=[k])&&tailB ops l (listed.setIfInBounds k true)
theorem any_of_tail {Q':Exit→Act→World→Prop}:∀ (l:List Nat) (listed:Array Bool) (a:Act) (w:World),tailB ops l listed=true→wpList P ops Q' (l.filterMap fun k=>ops[k]?) a w→wpAny P .any ops Q' l.length listed a w
 | [],_,_,_,hB,h=>⟨by simpa [tailB] using hB,h⟩
 | k::l,listed,a,w,hB,h=>by
  simp only [tailB,Bool.and_eq_true,decide_eq_true_eq] at hB
  obtain ⟨_,o,ho,_⟩:=mem_ready.1 (show k∈Region.ready .any ops listed by rw [hB.1];simp)
  rw [show (k::l).filterMap (fun k=>ops[k]?)=o::l.filterMap (fun k=>ops[k]?) by simp [ho]] at h
  refine ⟨fun h1=>(by rw [hB.1] at h1;cases h1),fun i hi=>?_⟩
  rw [hB.1] at hi
  obtain rfl:i=k:=by simpa using hi
  have hw:wpOp P ops Q' i (wpList P ops Q' (l.filterMap fun k=>ops[k]?)) a w:=by unfold wpOp;simp only [ho];exact h
  exact wpOp_mono (fun a' w' h'=>any_of_tail l _ a' w' hB.2 h') hw
theorem wp_region_float {id:Nat} {Q:Exit→Act→World→Prop} {a:Act} {w:World} {l:List Oper} {D0:World→Prop} {mv:Nat→Bool} (tl:List Nat) (ord:List Nat) (hm:P.follows .mixedOrders=true) (hB:(floatB l.toArray al l.length mv ord&&(tailB l.toArray tl (maskOf l.length al ord)&&decide (tl.length=l.length - (ord.length+al.length))))=true)
 (hmk:∀ x∈al,Makes P l.toArray x) (hD:Cls U D0) (hD0:D0 w.drew) (hB0:B0≤w.heap.size)
 (h:walkF P l.toArray U B0 l.length mv (fun a' D'=>∀ σ W,(∀ x∈al,∃ g,σ x.1=some g)→D' W→Good al B0 σ W→wpList P l.toArray Q (tl.filterMap fun k=>l.toArray[k]?) (app al σ a') W) (withOps l.toArray ord) a D0):(Code.region id l.toArray true).wp P Q a w:=by
 simp only [Bool.and_eq_true,decide_eq_true_eq] at hB
 refine wp_region_floatT (z:=l.length) ord hm hB.1 (fun oz h=>by simp at h) (fun oz h=>by simp at h) hmk hD hD0 hB0 ?_
 refine walkF_mono (fun a' D' h' σ W hσ hW hG=>?_) _ _ _ h
 rw [← hB.2.2]
 exact any_of_tail tl _ _ W hB.2.1 (h' σ W hσ hW hG)
theorem wp_region_floatz {id:Nat} {Q:Exit→Act→World→Prop} {a:Act} {w:World} {l:List Oper} {D0:World→Prop} {mv:Nat→Bool} {oz:Oper} (z:Nat) (tl:List Nat) (ord:List Nat) (hm:P.follows .mixedOrders=true) (hB:(floatB l.toArray al z mv ord&&(tailB l.toArray tl (maskOf l.length al ord)&&decide (tl.length=l.length - (ord.length+al.length))))=true)
 (hz:l[z]?=some oz) (hg:∀ y,Region.wanted oz y=true) (hQ:∀ c v a w,Q (.panic c) (a.put oz.dst v) w→Q (.panic c) a w) (hmk:∀ x∈al,Makes P l.toArray x) (hD:Cls U D0) (hD0:D0 w.drew) (hB0:B0≤w.heap.size)
 (h:walkF P l.toArray U B0 z mv (fun a' D'=>∀ σ W,(∀ x∈al,∃ g,σ x.1=some g)→D' W→Good al B0 σ W→wpList P l.toArray Q (tl.filterMap fun k=>l.toArray[k]?) (app al σ a') W) (withOps l.toArray ord) a D0):(Code.region id l.toArray true).wp P Q a w:=by
 simp only [Bool.and_eq_true,decide_eq_true_eq] at hB
 refine wp_region_floatT (z:=z) ord hm hB.1 (fun o h=>by rw [hz] at h;cases h;exact hg) (fun o h=>by rw [hz] at h;cases h;exact hQ) hmk hD hD0 hB0 ?_
 refine walkF_mono (fun a' D' h' σ W hσ hW hG=>?_) _ _ _ h
 rw [← hB.2.2]
 exact any_of_tail tl _ _ W hB.2.1 (h' σ W hσ hW hG)
theorem end0 {G:Act→World→Prop} {a':Act} {D':World→Prop} (h:∀ W,D' W→G a' W) :
 ∀ σ W,(∀ x∈([]:List (Nat×Nat×Array Value×TypeId)),∃ g,σ x.1=some g)→D' W→Good [] B0 σ W→G (app [] σ a') W:=fun _ W _ hW _=>h W hW
theorem end1 {G:Act→World→Prop} {a':Act} {D':World→Prop} {j d:Nat} {z:Array Value} {T:TypeId} (h:∀ g W,B0≤g→D' W→Box W g z T→G (a'.put (some d) (.pointer (some ⟨g,0,none⟩))) W) :
 ∀ σ W,(∀ x∈[(j,d,z,T)],∃ g,σ x.1=some g)→D' W→Good [(j,d,z,T)] B0 σ W→G (app [(j,d,z,T)] σ a') W:=fun σ W hσ hW hG=>by
 obtain ⟨g,hg⟩:=hσ (j,d,z,T) (by simp)
 obtain ⟨g1,g2,_⟩:=hG (j,d,z,T) (by simp) g hg
 have e:app [(j,d,z,T)] σ a'=a'.put (some d) (.pointer (some ⟨g,0,none⟩)):=by
  unfold app putOne
  simp only [List.foldl_cons,List.foldl_nil]
  simp only at hg
  rw [hg]
 rw [e]
 exact h g W g1 hW g2
theorem end2 {G:Act→World→Prop} {a':Act} {D':World→Prop} {j d j2 d2:Nat} {z z2:Array Value} {T T2:TypeId} (hj:j≠j2)
 (h:∀ g g2 W,B0≤g→B0≤g2→g≠g2→D' W→Box W g z T→Box W g2 z2 T2→G ((a'.put (some d) (.pointer (some ⟨g,0,none⟩))).put (some d2) (.pointer (some ⟨g2,0,none⟩))) W) :
 ∀ σ W,(∀ x∈[(j,d,z,T),(j2,d2,z2,T2)],∃ g,σ x.1=some g)→D' W→Good [(j,d,z,T),(j2,d2,z2,T2)] B0 σ W→G (app [(j,d,z,T),(j2,d2,z2,T2)] σ a') W:=fun σ W hσ hW hG=>by
 obtain ⟨g,hg⟩:=hσ (j,d,z,T) (by simp)
 obtain ⟨g',hg'⟩:=hσ (j2,d2,z2,T2) (by simp)
 obtain ⟨g1,g2,g3⟩:=hG (j,d,z,T) (by simp) g hg
 obtain ⟨k1,k2,_⟩:=hG (j2,d2,z2,T2) (by simp) g' hg'
 have e:app [(j,d,z,T),(j2,d2,z2,T2)] σ a'=(a'.put (some d) (.pointer (some ⟨g,0,none⟩))).put (some d2) (.pointer (some ⟨g',0,none⟩)):=by
  unfold app putOne
  simp only [List.foldl_cons,List.foldl_nil]
  simp only at hg hg'
  rw [hg,hg']
 rw [e]
 exact h g g' W g1 k1 (g3 (j2,d2,z2,T2) (by simp) g' hg' hj) hW g2 k2
theorem walkF_pure {ι:Type} [Inhabited ι] {base:ι→World} {mv:Nat→Bool} {E:Act→(World→Prop)→Prop} {k:Nat} {l:List (Nat×Oper)} {a a':Act} {D:World→Prop} {o:Oper} {d:Nat} (hw:Region.wanted o (yielded ops a.tmps)=true) (hmv:(mv k || k==z)=false) (hd:o.dst=some d) (hdl:decide (d<a.tmps.size)=true)
 (h:∀ x (K:Act→Prop),K a'→Oper.quiet P o a (fun w'=>∃ q,w'=ext (base x) q) K) (hk:walkF P ops (fun W=>∃ x,W=base x) B0 z mv E l a' D):walkF P ops (fun W=>∃ x,W=base x) B0 z mv E ((k,o)::l) a D:=by
 have hdl':d<a.tmps.size:=by simpa using hdl
 have key:∀ v,a.put o.dst v=a'→v=a'.tmps.getD d undef:=fun v e=>by
  rw [← e,hd]
  simp [Act.put,hdl']
 have all:∀ x,(∀ W,(∃ q,W=ext (base x) q)→o.quietAt P a (fun w'=>∃ q,w'=ext (base x) q) W (a'.tmps.getD d undef))∧a.put o.dst (a'.tmps.getD d undef)=a':=fun x=>by
  obtain ⟨v,h1,h2⟩:=h x (fun b=>b=a') rfl
  have:=key v h2
  subst this
  exact ⟨h1,h2⟩
 simp only [walkF]
 simp only [Bool.or_eq_false_iff,beq_eq_false_iff_ne] at hmv
 rw [if_pos hw,if_neg (by rw [hmv.1];exact Bool.false_ne_true)]
 refine ⟨a'.tmps.getD d undef,fun W ⟨x,hx⟩=>?_,fun e=>absurd e hmv.2,by rw [(all default).2];exact hk⟩
 subst hx
 exact (all x).1 _ ⟨_,ext_refl _⟩
theorem walkF_lazy {mv:Nat→Bool} {E:Act→(World→Prop)→Prop} {k:Nat} {l:List (Nat×Oper)} {a:Act} {D:World→Prop} {o:Oper} (v:Value) (hw:Region.wanted o (yielded ops a.tmps)=true) (hmv:mv k=false)
 (h:∀ w,(execOp a.eval o).run P w=.ok (.value v) w) (hk:walkF P ops U B0 z mv E l (a.put o.dst v) D):walkF P ops U B0 z mv E ((k,o)::l) a D:=by
 simp only [walkF]
 rw [if_pos hw,if_neg (by rw [hmv];exact Bool.false_ne_true)]
 exact ⟨v,fun W _=>by unfold Oper.quietAt;rw [h];exact ⟨rfl,rfl⟩,fun _=>h,hk⟩
theorem walkF_skip {mv:Nat→Bool} {E:Act→(World→Prop)→Prop} {k:Nat} {l:List (Nat×Oper)} {a:Act} {D:World→Prop} {o:Oper} (hw:Region.wanted o (yielded ops a.tmps)=false)
 (hk:walkF P ops U B0 z mv E l (a.put o.dst undef) D):walkF P ops U B0 z mv E ((k,o)::l) a D:=by
 simp only [walkF]
 rw [if_neg (by rw [hw];exact Bool.false_ne_true)]
 exact hk
theorem walkF_call {mv:Nat→Bool} {E:Act→(World→Prop)→Prop} {k:Nat} {l:List (Nat×Oper)} {a:Act} {D:World→Prop} {o:Oper} {f:FuncId} {args:Array Value} (R:Value→Prop) (D':Value→World→Prop)
 (hcall:∀ W,D W→Calls P f args W (fun e w''=>∃ v,e=.returned v∧R v∧D' v w''∧Stays B0 W w'')) (hcls:∀ v,R v→Cls U (D' v))
 (hw:Region.wanted o (yielded ops a.tmps)=true) (hmv:mv k=true) (hrun:∀ W,(execOp a.eval o).run P W=.ok (.enter f args) W)
 (hk:∀ v,R v→walkF P ops U B0 z mv E l (a.put o.dst v) (D' v)):walkF P ops U B0 z mv E ((k,o)::l) a D:=by
 simp only [walkF]
 rw [if_pos hw,if_pos hmv]
 exact ⟨R,D',hcls,fun W hW=>by rw [hrun];exact ⟨rfl,hcall W hW⟩,hk⟩
theorem walkF_nil {mv:Nat→Bool} {E:Act→(World→Prop)→Prop} {a:Act} {D:World→Prop} (h:E a D):walkF P ops U B0 z mv E [] a D:=h
end
theorem cls_ext (w:World):Cls (fun W=>∃ p:Ext,W=ext w p) (fun W=>∃ p:Ext,W=ext w p):=⟨fun _ h=>h,fun _ q ⟨p,hp⟩=>⟨p.plus q,by rw [hp,ext_ext]⟩⟩
theorem drew_in (w:World):∃ p:Ext,w.drew=ext w p:=⟨_,ext_one w⟩
theorem drew_in2 (w:World) (p:Ext):∃ q:Ext,(ext w p).drew=ext w q:=⟨_,ext_drew w p⟩
theorem plus_assoc (p q r:Ext):(p.plus q).plus r=p.plus (q.plus r):=by simp [Ext.plus,Array.append_assoc]
theorem Gives.inFloat {P:Program} {f:FuncId} {args:Array Value} {w:World} {p q:Ext} {v:Value} (h:Gives P f args (ext w (p.plus q)) v) :
 Calls P f args (ext w (p.plus q)) fun e w''=>e=.returned v∧∃ q':Ext,w''=ext w (p.plus q') :=
 Calls.mono h fun _ _ ⟨he,r,hr⟩=>⟨he,q.plus r,by rw [hr,ext_ext,plus_assoc]⟩
theorem makes0 {P:Program} {ops:Array Oper}:∀ x∈([]:List (Nat×Nat×Array Value×TypeId)),Makes P ops x:=fun _ h=>by cases h
theorem makes1 {P:Program} {ops:Array Oper} {x:Nat×Nat×Array Value×TypeId} (h:Makes P ops x):∀ z∈[x],Makes P ops z:=fun z hz=>by
 obtain rfl:z=x:=by simpa using hz
 exact h
theorem makes2 {P:Program} {ops:Array Oper} {x y:Nat×Nat×Array Value×TypeId} (h:Makes P ops x) (h2:Makes P ops y):∀ z∈[x,y],Makes P ops z:=fun z hz=>by
 rcases List.mem_cons.1 hz with rfl | hz
 · exact h
 · exact makes1 h2 z hz
theorem forgetW {G:World→Prop} {w:World} (S:World→Prop) (hS:S w) (h:∀ w',S w'→G w'):G w:=h w hS
def RPost (W:World) (B:Nat) (t k:Int) (R:Value→Prop) (e:Ending) (W':World):Prop:=∃ (v:Value) (t':Int) (p:Ext),e=.returned v∧R v∧0≤t'∧t'≤t+k∧W'=ext (W.setCell ⟨B,1,none⟩ (.int .i64 t')) p
theorem RPost.mk {W:World} {B:Nat} {t k t':Int} {R:Value→Prop} {v:Value} {W':World} (hR:R v) (h1:0≤t') (h2:t'≤t+k) (u:Up (W.setCell ⟨B,1,none⟩ (.int .i64 t')) W'):RPost W B t k R (.returned v) W' :=
 let ⟨p,hp⟩:=u;⟨v,t',p,rfl,hR,h1,h2,hp⟩
def RingGives (f:FuncId) (args:Array Value) (w:World) (sl:Value) (B:Nat) (k:Int) (R:Value→Prop):Prop :=
 ∀ t W,Up w W→Box W B #[sl,.int .i64 t] 98→0≤t→t+k≤100000→Calls Tryz.prog f args W (RPost W B t k R)
theorem RingGives.mono {f:FuncId} {args:Array Value} {w:World} {sl:Value} {B:Nat} {k:Int} {R R':Value→Prop} (h:RingGives f args w sl B k R) (hR:∀ v,R v→R' v):RingGives f args w sl B k R' :=
 fun t W hu hb t0 t1=>(h t W hu hb t0 t1).mono fun _ _ ⟨v,t',p,he,hv,h1,h2,hw⟩=>⟨v,t',p,he,hR v hv,h1,h2,hw⟩
def RInt (lo hi:Int) (v:Value):Prop:=∃ x:Int,lo≤x∧x≤hi∧v=.int .i64 x
theorem next_r {w:World} {sl:Value} (hN:Nums w sl) {B:Nat} (hB:w.heap.size≤B) {m:Int} (m0:1≤m) (m1:m≤9223372036854775807) :
 RingGives 34 #[.pointer (some ⟨B,0,none⟩),.int .i64 m] w sl B 1 (RInt 0 (m - 1)):=fun t W hu hb t0 t1 =>
 (next_any w sl hN B t m W hu hb hB t0 (by omega) m0 m1).mono fun _ _ ⟨x,p,x0,x1,he,hw⟩=>⟨_,_,p,he,⟨x,x0,x1,rfl⟩,by omega,by omega,hw⟩
def ringBase (w:World) (B:Nat) (x:Int×Ext):World:=ext (w.setCell ⟨B,1,none⟩ (.int .i64 x.1)) x.2
def RingAt (w:World) (B:Nat) (n:Int) (W:World):Prop:=∃ (t:Int) (p:Ext),0≤t∧t≤n∧W=ext (w.setCell ⟨B,1,none⟩ (.int .i64 t)) p
theorem cls_ring (w:World) (B:Nat) (n:Int):Cls (fun W=>∃ x,W=ringBase w B x) (RingAt w B n) :=
 ⟨fun _ ⟨t,p,_,_,h⟩=>⟨(t,p),h⟩,fun _ q ⟨t,p,h0,h1,h⟩=>⟨t,p.plus q,h0,h1,by rw [h,ext_ext]⟩⟩
theorem set_same {w:World} {b o:Nat} {c:Array Value} {t:TypeId} {v:Value} (h:Box w b c t) (hv:c[o]?=some v):w.setCell ⟨b,o,none⟩ v=w:=by
 unfold World.setCell
 have hm:∀ f:Obj→Obj,f (.cells c t (0,0))=.cells c t (0,0)→w.heap.modify b f=w.heap:=fun f hf=>by
  apply Array.ext_getElem?
  intro k
  simp only [Array.getElem?_modify]
  split
  · rename_i hk
    subst hk
    rw [show w.heap[b]?=some (.cells c t (0,0)) from h]
    simp [hf]
  · rfl
 simp only
 rw [hm]
 simp only
 have:c.setIfInBounds o v=c:=by
  apply Array.ext_getElem?
  intro k
  by_cases hk:o=k
  · subst hk
    obtain ⟨hlt,he⟩:=Array.getElem?_eq_some_iff.1 hv
    simp [hlt,he]
  · simp [Array.getElem?_setIfInBounds_ne hk]
 simp [this]
theorem ringAt_drew {w:World} {B:Nat} {sl:Value} {t n:Int} {T:TypeId} (h:Box w B #[sl,.int .i64 t] T) (h0:0≤t) (h1:t≤n):RingAt w B n w.drew :=
 ⟨t,⟨w.drawn+1,#[]⟩,h0,h1,by rw [set_same h (o:=1) (v:=.int .i64 t) rfl];exact ext_one w⟩
theorem ring_call {f:FuncId} {args:Array Value} {w wz:World} {sl:Value} {B B0:Nat} {k t0 n:Int} {R:Value→Prop} (hK:RingGives f args w sl B k R) (hu:Up w wz) (hb:Box wz B #[sl,.int .i64 t0] 98) (hB:w.heap.size≤B) (hB0:B<B0) (hn:n+k≤100000) :
 ∀ W,RingAt wz B n W→Calls Tryz.prog f args W (fun e W'=>∃ v,e=.returned v∧R v∧RingAt wz B (n+k) W'∧Stays B0 W W'):=fun W ⟨t,p,h0,h1,hW⟩=>by
 subst hW
 refine (hK t _ ((hu.setCell (q:=⟨B,1,none⟩) hB _).ext p) ((hb.two1 (.int .i64 t)).ext p) h0 (by omega)).mono ?_
 rintro e W' ⟨v,t',p',he,hv,h2,h3,rfl⟩
 refine ⟨v,he,hv,⟨t',p.plus p',by omega,by omega,?_⟩,?_⟩
 · rw [ext_setCell _ _ _ _ _ (by simpa using hb.lt),set_again,ext_ext]
 · refine ⟨by rw [ext_size];simp,fun b c T hbb hx=>Box.ext (Box.other hx (by omega) 1 _) p'⟩
theorem RingAt.box {w:World} {B:Nat} {n:Int} {W:World} (h:RingAt w B n W) {sl:Value} {t:Int} {T:TypeId} (hb:Box w B #[sl,.int .i64 t] T):∃ t':Int,0≤t'∧t'≤n∧Box W B #[sl,.int .i64 t'] T :=
 let ⟨t',p,h0,h1,hW⟩:=h;⟨t',h0,h1,hW▸((hb.two1 (.int .i64 t')).ext p)⟩
theorem RingAt.other {w:World} {B:Nat} {n:Int} {W:World} (h:RingAt w B n W) {b:Nat} {c:Array Value} {T:TypeId} (hb:Box w b c T) (hne:b≠B):Box W b c T :=
 let ⟨_,p,_,_,hW⟩:=h;hW▸((hb.other hne 1 _).ext p)
theorem RingAt.up {w0 w:World} {B:Nat} {n:Int} {W:World} (h:RingAt w B n W) (hu:Up w0 w) (hB:w0.heap.size≤B):Up w0 W :=
 let ⟨_,p,_,_,hW⟩:=h;hW▸((hu.setCell (q:=⟨B,1,none⟩) hB _).ext p)
theorem RingAt.size {w:World} {B:Nat} {n:Int} {W:World} (h:RingAt w B n W):w.heap.size≤W.heap.size :=
 let ⟨_,p,_,_,hW⟩:=h;by rw [hW,ext_size];simp
def RVec (a b c d:Int) (v:Value):Prop:=∃ x y:Int,a≤x∧x≤b∧c≤y∧y≤d∧v=.agg #[.int .i64 x,.int .i64 y]
end Go.Proofs.YteafglginnonnaaGreat
