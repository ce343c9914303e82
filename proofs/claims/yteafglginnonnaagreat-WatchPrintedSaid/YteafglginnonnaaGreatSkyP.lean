/- Several texts in one. -/
import Derived.Test.YteafglginnonnaaGreatRingF
import Derived.Deep.AppendLies
import Derived.Test.YteafglginnonnaaGreatModk
/- The worlds in which the ring has been asked, closed under all that a function does with blocks of its own; a call that asks the ring, in such a world. No conditions. -/
set_option linter.unusedVariables false
set_option linter.unusedSimpArgs false
namespace Go.Proofs.YteafglginnonnaaGreat
open Go.RowKit
theorem RingAt.start {w:World} {B:Nat} {sl:Value} {t n:Int} {T:TypeId} (h:Box w B #[sl,.int .i64 t] T) (h0:0≤t) (h1:t≤n):RingAt w B n w :=
 ⟨t,⟨w.drawn,#[]⟩,h0,h1,by rw [set_same h (o:=1) (v:=.int .i64 t) rfl];exact ext_refl w⟩
theorem RingAt.ofUp {w W W':World} {B:Nat} {n:Int} (h:RingAt w B n W) (hu:Up W W'):RingAt w B n W':=by
 obtain ⟨t,p,h0,h1,rfl⟩:=h
 obtain ⟨q,rfl⟩:=hu
 exact ⟨t,p.plus q,h0,h1,by rw [ext_ext]⟩
theorem RingAt.drew {w W:World} {B:Nat} {n:Int} (h:RingAt w B n W):RingAt w B n W.drew:=h.ofUp (Up.refl _).drew
theorem RingAt.alloc {w W:World} {B:Nat} {n:Int} (h:RingAt w B n W) (o:Obj):RingAt w B n (W.alloc o):=h.ofUp ((Up.refl _).alloc o)
theorem RingAt.ext {w W:World} {B:Nat} {n:Int} (h:RingAt w B n W) (p:Ext):RingAt w B n (Go.Proofs.YteafglginnonnaaGreat.ext W p):=h.ofUp ((Up.refl _).ext p)
theorem RingAt.toUp {w W:World} {B:Nat} {n:Int} (h:RingAt w B n W):∃ t:Int,0≤t∧t≤n∧Up (w.setCell ⟨B,1,none⟩ (.int .i64 t)) W :=
 let ⟨t,p,h0,h1,hW⟩:=h;⟨t,h0,h1,p,hW⟩
theorem RingAt.mkUp {w W:World} {B:Nat} {n t:Int} (h0:0≤t) (h1:t≤n) (h:Up (w.setCell ⟨B,1,none⟩ (.int .i64 t)) W):RingAt w B n W :=
 let ⟨p,hW⟩:=h;⟨t,p,h0,h1,hW⟩
theorem set_size (w:World) (q:Addr) (v:Value):(w.setCell q v).heap.size=w.heap.size:=by simp [World.setCell]
theorem RingAt.set {w W:World} {B:Nat} {n:Int} (h:RingAt w B n W) {b:Nat} (hb:w.heap.size≤b) (i:Nat) (v:Value):RingAt w B n (W.setCell ⟨b,i,none⟩ v):=by
 obtain ⟨t,h0,h1,hu⟩:=h.toUp
 exact .mkUp h0 h1 (hu.setCell (by rw [set_size];exact hb) v)
theorem RingAt.grown {w W W':World} {B:Nat} {n:Int} (h:RingAt w B n W) {row:Option Nat} (hg:W.grownBy W' row) (hr:∀ k,row=some k→w.heap.size≤k):RingAt w B n W':=by
 obtain ⟨t,h0,h1,hu⟩:=h.toUp
 exact .mkUp h0 h1 (.of_below (hu.below.grown hg (by rw [set_size];have:=hu.below.size;rw [set_size] at this;exact this) (fun k e=>by rw [set_size];exact hr k e)))
theorem RingAt.mono {w W:World} {B:Nat} {n m:Int} (h:RingAt w B n W) (hm:n≤m):RingAt w B m W :=
 let ⟨t,p,h0,h1,hW⟩:=h;⟨t,p,h0,by omega,hW⟩
theorem RingAt.called {w W:World} {B:Nat} {n m t:Int} (h:RingAt w B n W) (hB:B<w.heap.size) (t0:0≤t) (t1:t≤m) (p:Ext):RingAt w B m (Go.Proofs.YteafglginnonnaaGreat.ext (W.setCell ⟨B,1,none⟩ (.int .i64 t)) p):=by
 obtain ⟨t',p',h0,h1,rfl⟩:=h
 refine ⟨t,p'.plus p,t0,t1,?_⟩
 rw [ext_setCell _ _ _ _ _ (by rw [set_size];exact hB),set_again,ext_ext]
theorem RingAt.out {w W:World} {B:Nat} {n:Int} (h:RingAt w B n W):∃ (t:Int) (p:Ext),0≤t∧t≤n∧W=Go.Proofs.YteafglginnonnaaGreat.ext (w.setCell ⟨B,1,none⟩ (.int .i64 t)) p:=h
theorem RingGives.at {f:FuncId} {args:Array Value} {w w0 W:World} {sl:Value} {B:Nat} {k t0 n:Int} {R:Value→Prop} (hK:RingGives f args w sl B k R) (hu:Up w w0) (hb:Box w0 B #[sl,.int .i64 t0] 98) (hB:w.heap.size≤B)
 (hW:RingAt w0 B n W) (hn:n+k≤100000):Calls Tryz.prog f args W (fun e W'=>∃ v,e=.returned v∧R v∧RingAt w0 B (n+k) W'∧W.grownBy W' (some B)):=by
 obtain ⟨t,h0,h1,hbW⟩:=hW.box hb
 refine (hK t _ (hW.up hu hB) hbW h0 (by omega)).mono ?_
 rintro e W' ⟨v,t',p',he,hv,h2,h3,rfl⟩
 exact ⟨v,he,hv,hW.called hb.lt h2 (by omega) p',grown_up (grown_set (grown_refl _ _) _ _) ((Up.refl _).ext _)⟩
theorem pointof_k {w:World} {sl:Value} (hN:Nums w sl) {B:Nat} (hB:w.heap.size≤B) {n:Int} (n0:0≤n) (n1:n≤1000000) :
 RingGives 76 #[.pointer (some ⟨B,0,none⟩),.int .i64 n] w sl B 2 (RVec (-n) n (-n) n):=fun t W hu hb t0 t1=>by
 have K:=hide (fun t W hu hb t0 t1=>next_any w sl hN B t (2*n+1) W hu hb hB t0 t1 (by omega) (by omega))
 have HU:=hide (And.intro hu hb)
 have lB:=hb.lt
 clear hN hu hb
 go_enter Tryz.func76,Tryz.ntmps76
 go_wp2_with (go_at_call 34;refine (K.out _ _ (by repeat (first | exact HU.out.1 | apply Up.ext | apply Up.alloc | (refine Up.setCell ?_ (by simp;try omega) _))) (by repeat (first | exact HU.out.2 | apply Box.ext | apply Box.alloc | apply Box.two1 | (refine Box.other ?_ (by omega) _ _))) (by omega) (by omega)).mono ?_;rintro _ _ ⟨x,p,x0,x1,rfl,rfl⟩)
 rename_i x2 p2 x20 x21
 exact bodyPost_ret (v:=.agg #[.int .i64 (x2 - n),.int .i64 (x - n)]) (by simp [results,Tryz.results76,go_sem]) rfl (RPost.mk (t':=t+1+1) ⟨_,_,by omega,by omega,by omega,by omega,rfl⟩ (by omega) (by omega) (by repeat (first|with_reducible exact Up.refl _|apply Up.ext|apply Up.alloc)))
def withinB (n lo hi:Int):Bool:=decide (lo≤n∧n≤hi)
theorem within_any (n lo hi:Int) (w:World):Gives Tryz.prog 219 #[.int .i64 n,.int .i64 lo,.int .i64 hi] w (.bool (withinB n lo hi)):=by
 (unfold Gives;go_enter Tryz.func219,Tryz.ntmps219)
 go_wp2
 all_goals go_ret
 all_goals refine ⟨ret_bool ?_,Up.refl _⟩
 · rename_i h;simp [withinB,h]
 · rename_i h;simp [withinB];omega
def fitsB (n:Int):Bool:=withinB n (-1152921504606846976) 1152921504606846976
theorem fits_any (n:Int) (w:World):Gives Tryz.prog 196 #[.int .i64 n] w (.bool (fitsB n)):=by
 (unfold Gives;go_enter Tryz.func196,Tryz.ntmps196)
 go_wp2_with (go_at_call 219;refine (within_any _ _ _ _).mono ?_;intro _)
 go_ret
 exact ⟨rfl,_,rfl⟩
def checkE (lo hi:Int):Int:=if fitsB lo=true∧fitsB hi=true then (if hi<lo then 11 else 0) else 2
theorem check_any (lo hi:Int) (w:World):Gives Tryz.prog 175 #[.agg #[.int .i64 lo,.int .i64 hi]] w (.int .i64 (checkE lo hi)):=by
 (unfold Gives;go_enter Tryz.func175,Tryz.ntmps175)
 go_wp2_with (go_at_call 196;refine (fits_any _ _).mono ?_;intro _)
 all_goals (go_ret;refine ⟨ret_int ?_,Up.go⟩)
 all_goals (go_light;first|(simp_all [checkE];done)|(simp_all [checkE];omega)|(simp_all [checkE];repeat' split;all_goals (first|(simp_all;done)|omega|(simp_all;omega))))
def validE (a b c d:Int):Int:=if checkE a b=0 then checkE c d else checkE a b
theorem valid_any (a b c d:Int) (w:World):Gives Tryz.prog 140 #[.agg #[.int .i64 a,.int .i64 b],.agg #[.int .i64 c,.int .i64 d]] w (.int .i64 (validE a b c d)):=by
 (unfold Gives;go_enter Tryz.func140,Tryz.ntmps140)
 go_wp2_with (go_at_call 175;refine (check_any _ _ _).mono ?_;intro _)
 all_goals (go_ret;refine ⟨ret_int ?_,Up.go⟩)
 all_goals (go_light;first|(simp_all [validE];done)|(simp_all [validE];omega)|(simp_all [validE];repeat' split;all_goals (first|(simp_all;done)|omega|(simp_all;omega))))
def inB (a b n:Int):Bool:=checkE a b==0&&withinB n a b
theorem in_any (a b n:Int) (w:World):Gives Tryz.prog 262 #[.agg #[.int .i64 a,.int .i64 b],.int .i64 n] w (.bool (inB a b n)):=by
 (unfold Gives;go_enter Tryz.func262,Tryz.ntmps262)
 go_wp2_with (first|(go_at_call 175;refine (check_any _ _ _).mono ?_;intro _)|(go_at_call 219;refine (within_any _ _ _ _).mono ?_;intro _))
 all_goals (go_ret;refine ⟨ret_bool ?_,Up.go⟩)
 all_goals (go_light;first|(simp_all [inB];done)|(simp_all [inB];omega)|(simp_all [inB];repeat' split;all_goals (first|(simp_all;done)|omega|(simp_all;omega))))
theorem fits_iff (n:Int):fitsB n=true ↔ -1152921504606846976≤n∧n≤1152921504606846976:=by simp [fitsB,withinB]
theorem check_zero {a b:Int} (h:checkE a b=0):-1152921504606846976≤a∧a≤b∧b≤1152921504606846976:=by
 unfold checkE at h
 split at h
 · rename_i h1;rw [fits_iff,fits_iff] at h1;split at h <;> omega
 · omega
theorem check_ok {a b:Int} (h0:-1152921504606846976≤a) (h1:a≤b) (h2:b≤1152921504606846976):checkE a b=0:=by
 unfold checkE
 rw [if_pos ⟨(fits_iff _).2 (by omega),(fits_iff _).2 (by omega)⟩,if_neg (by omega)]
@[go_sem] theorem lt_far1 (a p:Nat):(a<a+1+p)=True:=eq_true (by omega)
@[go_sem] theorem lt_far2 (a p:Nat):(a<a+1+1+p)=True:=eq_true (by omega)
@[go_sem] theorem lt_far3 (a p:Nat):(a<a+1+1+1+p)=True:=eq_true (by omega)
@[go_sem] theorem lt_far4 (a p:Nat):(a<a+1+1+1+1+p)=True:=eq_true (by omega)
@[go_sem] theorem lt_far5 (a p:Nat):(a<a+1+1+1+1+1+p)=True:=eq_true (by omega)
@[go_sem] theorem lt_far6 (a p:Nat):(a<a+1+1+1+1+1+1+p)=True:=eq_true (by omega)
structure Bod where
 mu:Int
 radius:Int
 track:List (Int×Int)
structure SkyD where
 bodies:List Bod
 home:Int
 stations:List (Int×Int×Int)
 catalogs:List (Int×Int×Int)
def nearV (m:Int) (p:Int×Int):Bool:=withinB p.1 (-m) m&&withinB p.2 (-m) m
def bodyE (b:Bod):Int :=
 if (withinB b.mu 0 1125899906842624&&withinB b.radius 0 1048576)=false then 2
 else if b.track.length=0 then 6
 else if 4096<b.track.length then 8
 else if b.track.all (nearV 33554432)=false then 2 else 0
def firstE {α:Type} (f:α→Int):List α→Int
 | []=>0
 | x::l=>if f x=0 then firstE f l else f x
def worldE (bodies:List Bod) (home:Int):Int :=
 if bodies.length=0 then 6 else if 8<bodies.length then 8
 else if firstE bodyE bodies=0 then (if home<0∨(bodies.length:Int)≤home then 7 else 0) else firstE bodyE bodies
def stationsE (last:Int):List (Int×Int×Int)→Int
 | []=>0
 | (id,x,y)::l=>if id≤last then 11 else if nearV 1048576 (x,y)=false then 2 else stationsE id l
def catalogsE (last:Int):List (Int×Int×Int)→Int
 | []=>0
 | (v,lo,hi)::l=>if v≤last then 11 else if lo < -500000∨hi<lo∨500000<hi then 2 else catalogsE v l
def skyE (s:SkyD):Int :=
 if worldE s.bodies s.home=0 then
  (if 16<s.stations.length then 8
   else if stationsE 0 s.stations=0 then (if 8<s.catalogs.length then 8 else catalogsE 0 s.catalogs)
   else stationsE 0 s.stations)
 else worldE s.bodies s.home
def placeV (b:Bod) (tick:Int):Int×Int:=b.track.getD (tick % (b.track.length:Int)).toNat (0,0)
def whereV (s:SkyD) (id tick:Int):Int×Int×Bool :=
 if skyE s=0∧withinB tick 0 1073741824=true then
  match s.stations.find? (fun x=>x.1==id),s.bodies[s.home.toNat]? with
  | some x,some b=>((placeV b tick).1+x.2.1,(placeV b tick).2+x.2.2,true)
  | _,_=>(0,0,false)
 else (0,0,false)
end Go.Proofs.YteafglginnonnaaGreat
