/- Several texts in one. -/
import Derived.Test.YteafglginnonnaaGreatComb
import Derived.Test.YteafglginnonnaaGreatSpanD
import Derived.KernelRfl
/- Sums, differences, products, squares and quotients of spans. No conditions. -/
set_option linter.unusedVariables false
set_option linter.unusedSimpArgs false
namespace Go.Proofs.YteafglginnonnaaGreat
open Go.RowKit
def endsS (lo hi:Int):Int×Int×Int:=if fitsB lo=true∧fitsB hi=true then (lo,hi,0) else (0,0,14)
theorem ends_any (lo hi:Int) (w:World):Gives Tryz.prog 251 #[.int .i64 lo,.int .i64 hi] w (.tuple #[.agg #[.int .i64 (endsS lo hi).1,.int .i64 (endsS lo hi).2.1],.int .i64 (endsS lo hi).2.2]):=by
 (unfold Gives;go_enter Tryz.func251,Tryz.ntmps251)
 go_wp2_with (go_at_call 196;refine (fits_any _ _).mono ?_;intro _)
 all_goals (refine bodyPost_give Up.go rfl ⟨_,(by simp [results,Tryz.results251,go_sem];rfl),?_⟩)
 all_goals (go_light;first|(simp_all [endsS];done)|(simp_all [endsS];omega)|(simp_all [endsS];repeat' split;all_goals (first|(simp_all;done)|omega|(simp_all;omega))))
theorem valid_zero {a b c d:Int} (h:validE a b c d=0):checkE a b=0∧checkE c d=0:=by
 unfold validE at h
 split at h
 · exact ⟨by assumption,h⟩
 · exact absurd h (by assumption)
def addS (a b c d:Int):Int×Int×Int:=if validE a b c d=0 then endsS (a+c) (b+d) else (0,0,validE a b c d)
theorem add_any (a b c d:Int) (w:World):Gives Tryz.prog 233 #[.agg #[.int .i64 a,.int .i64 b],.agg #[.int .i64 c,.int .i64 d]] w
 (.tuple #[.agg #[.int .i64 (addS a b c d).1,.int .i64 (addS a b c d).2.1],.int .i64 (addS a b c d).2.2]):=by
 by_cases hv:validE a b c d=0
 · obtain ⟨h1,h2⟩:=valid_zero hv
   obtain ⟨a0,a1,a2⟩:=check_zero h1
   obtain ⟨c0,c1,c2⟩:=check_zero h2
   have hvb:(validE a b c d != 0)=false:=by simp [hv]
   rw [show addS a b c d=endsS (a+c) (b+d) by unfold addS;rw [if_pos hv]]
   clear h1 h2 hv
   (unfold Gives;go_enter Tryz.func233,Tryz.ntmps233)
   go_wp2_with (first|(go_at_call 140;refine (valid_any _ _ _ _ _).mono ?_;intro _)|(go_at_call 251;refine (ends_any _ _ _).mono ?_;intro _))
   all_goals (refine bodyPost_give Up.go rfl ⟨_,(by simp [results,Tryz.results233,go_sem];rfl),?_⟩)
   all_goals rfl
 · have hvb:(validE a b c d != 0)=true:=by simp [hv]
   rw [show addS a b c d=(0,0,validE a b c d) by unfold addS;rw [if_neg hv]]
   clear hv
   (unfold Gives;go_enter Tryz.func233,Tryz.ntmps233)
   go_wp2_with (go_at_call 140;refine (valid_any _ _ _ _ _).mono ?_;intro _)
   all_goals (refine bodyPost_give Up.go rfl ⟨_,(by simp [results,Tryz.results233,go_sem];rfl),?_⟩)
   all_goals rfl
def subS (a b c d:Int):Int×Int×Int:=if validE a b c d=0 then endsS (a - d) (b - c) else (0,0,validE a b c d)
theorem sub_any (a b c d:Int) (w:World):Gives Tryz.prog 259 #[.agg #[.int .i64 a,.int .i64 b],.agg #[.int .i64 c,.int .i64 d]] w
 (.tuple #[.agg #[.int .i64 (subS a b c d).1,.int .i64 (subS a b c d).2.1],.int .i64 (subS a b c d).2.2]):=by
 by_cases hv:validE a b c d=0
 · obtain ⟨h1,h2⟩:=valid_zero hv
   obtain ⟨a0,a1,a2⟩:=check_zero h1
   obtain ⟨c0,c1,c2⟩:=check_zero h2
   have hvb:(validE a b c d != 0)=false:=by simp [hv]
   rw [show subS a b c d=endsS (a - d) (b - c) by unfold subS;rw [if_pos hv]]
   clear h1 h2 hv
   (unfold Gives;go_enter Tryz.func259,Tryz.ntmps259)
   go_wp2_with (first|(go_at_call 140;refine (valid_any _ _ _ _ _).mono ?_;intro _)|(go_at_call 251;refine (ends_any _ _ _).mono ?_;intro _))
   all_goals (refine bodyPost_give Up.go rfl ⟨_,(by simp [results,Tryz.results259,go_sem];rfl),?_⟩)
   all_goals rfl
 · have hvb:(validE a b c d != 0)=true:=by simp [hv]
   rw [show subS a b c d=(0,0,validE a b c d) by unfold subS;rw [if_neg hv]]
   clear hv
   (unfold Gives;go_enter Tryz.func259,Tryz.ntmps259)
   go_wp2_with (go_at_call 140;refine (valid_any _ _ _ _ _).mono ?_;intro _)
   all_goals (refine bodyPost_give Up.go rfl ⟨_,(by simp [results,Tryz.results259,go_sem];rfl),?_⟩)
   all_goals rfl
theorem mul1_any (x y:Int) (x0:-1152921504606846976≤x) (x1:x≤1152921504606846976) (y0:-1152921504606846976≤y) (y1:y≤1152921504606846976) (w:World) :
 Gives Tryz.prog 265 #[.int .i64 x,.int .i64 y] w (.tuple #[.int .i64 (mdE (x*y) 1).1,.int .i64 (mdE (x*y) 1).2.1,.int .i64 (mdE (x*y) 1).2.2]):=by
 (unfold Gives;go_enter Tryz.func265,Tryz.ntmps265)
 go_wp2_with (first|(go_at_call 260;refine (product_any _ _ (by omega) (by omega) (by omega) (by omega) _).mono ?_;intro _)|(go_at_call 261;refine (product_divide _ _ 1 (by omega) (by omega) (by omega) (by omega) (by omega) (by omega) (by omega) _).mono ?_;intro _))
 go_ret3
 exact ⟨rfl,Up.go⟩
theorem divW_one (x y:Int) (hy:y≠0):divW ((x.natAbs:Int) / 18446744073709551616) ((x.natAbs:Int) % 18446744073709551616) (decide (x<0)) y=mdE x y:=by
 have h:=divW_product x 1 y hy
 rw [show ((1:Int).natAbs:Int)=1 from rfl,Int.mul_one,Int.mul_one,show (decide (x<0) != decide ((1:Int)<0))=decide (x<0) by simp] at h
 exact h
theorem product_one (x:Int) (x0:-1152921504606846976≤x) (x1:x≤1152921504606846976) (w:World):Gives Tryz.prog 260 #[.int .i64 x,.int .i64 1] w
 (.agg #[.int .u64 ((x.natAbs:Int) / 18446744073709551616),.int .u64 ((x.natAbs:Int) % 18446744073709551616),.bool (decide (x<0))]):=by
 have h:=product_any x 1 (by omega) (by omega) (by omega) (by omega) w
 rw [show ((1:Int).natAbs:Int)=1 from rfl,Int.mul_one,show (decide (x<0) != decide ((1:Int)<0))=decide (x<0) by simp] at h
 exact h
theorem quot1_any (x y:Int) (x0:-1152921504606846976≤x) (x1:x≤1152921504606846976) (y0:-1152921504606846976≤y) (y1:y≤1152921504606846976) (hy:y≠0) (w:World) :
 Gives Tryz.prog 264 #[.int .i64 x,.int .i64 y] w (.tuple #[.int .i64 (mdE x y).1,.int .i64 (mdE x y).2.1,.int .i64 (mdE x y).2.2]):=by
 rw [← divW_one x y hy]
 clear hy
 (unfold Gives;go_enter Tryz.func264,Tryz.ntmps264)
 go_wp2_with (first|(go_at_call 260;refine (product_one _ x0 x1 _).mono ?_;intro _)|(go_at_call 261;refine (divide_any _ _ _ _ (by omega) (by omega) (by omega) (by omega) (by omega) (by omega) _).mono ?_;intro _))
 go_ret3
 exact ⟨rfl,Up.go⟩
theorem mem_four {a b c d:Int} {x:Int×Int} (h:x∈four a b c d):(x.1=a∨x.1=b)∧(x.2=c∨x.2=d):=by
 simp [four] at h
 rcases h with rfl | rfl | rfl | rfl <;> simp
def mulS (a b c d:Int):Int×Int×Int:=combE (fun x y=>mdE (x*y) 1) a b c d
theorem mul_any (a b c d:Int) (w:World):Gives Tryz.prog 253 #[.agg #[.int .i64 a,.int .i64 b],.agg #[.int .i64 c,.int .i64 d]] w
 (.tuple #[.agg #[.int .i64 (mulS a b c d).1,.int .i64 (mulS a b c d).2.1],.int .i64 (mulS a b c d).2.2]):=by
 have hc:=fun W=>combine_any 265 (fun x y=>mdE (x*y) 1) (enters_of Tryz.func265 (by kernel_rfl) rfl) a b c d (fun hv x hx W=>by
  obtain ⟨h1,h2⟩:=valid_zero hv
  obtain ⟨a0,a1,a2⟩:=check_zero h1
  obtain ⟨c0,c1,c2⟩:=check_zero h2
  obtain ⟨h3,h4⟩:=mem_four hx
  exact mul1_any x.1 x.2 (by omega) (by omega) (by omega) (by omega) W) W
 have HC:=hide hc
 clear hc
 unfold mulS
 (unfold Gives;go_enter Tryz.func253,Tryz.ntmps253)
 go_wp2_with (go_at_call 263;refine (HC.out _).mono ?_;intro _)
 all_goals (refine bodyPost_give Up.go rfl ⟨_,(by simp [results,Tryz.results253,go_sem];rfl),?_⟩)
 all_goals rfl
def quotS (a b c d:Int):Int×Int×Int:=if validE a b c d=0 then (if c≤0∧0≤d then (0,0,2) else combE (fun x y=>mdE x y) a b c d) else (0,0,validE a b c d)
theorem quot_any (a b c d:Int) (w:World):Gives Tryz.prog 252 #[.agg #[.int .i64 a,.int .i64 b],.agg #[.int .i64 c,.int .i64 d]] w
 (.tuple #[.agg #[.int .i64 (quotS a b c d).1,.int .i64 (quotS a b c d).2.1],.int .i64 (quotS a b c d).2.2]):=by
 by_cases hv:validE a b c d=0
 · have hvb:(validE a b c d != 0)=false:=by simp [hv]
   obtain ⟨h1,h2⟩:=valid_zero hv
   obtain ⟨c0,c1,c2⟩:=check_zero h2
   by_cases hz:c≤0∧0≤d
   · have hin:inB c d 0=true:=by simp [inB,h2,withinB,hz]
     rw [show quotS a b c d=(0,0,2) by unfold quotS;rw [if_pos hv,if_pos hz]]
     clear hz h1 h2 hv c1
     (unfold Gives;go_enter Tryz.func252,Tryz.ntmps252)
     go_wp2_with (first|(go_at_call 140;refine (valid_any _ _ _ _ _).mono ?_;intro _)|(go_at_call 262;refine (in_any _ _ _ _).mono ?_;intro _))
     all_goals (refine bodyPost_give Up.go rfl ⟨_,(by simp [results,Tryz.results252,go_sem];rfl),?_⟩)
     all_goals rfl
   · have hin:inB c d 0=false:=by simp [inB,h2,withinB];omega
     have hc:=fun W=>combine_any 264 (fun x y=>mdE x y) (enters_of Tryz.func264 (by kernel_rfl) rfl) a b c d (fun hv x hx W=>by
      obtain ⟨a0,a1,a2⟩:=check_zero h1
      obtain ⟨h3,h4⟩:=mem_four hx
      exact quot1_any x.1 x.2 (by omega) (by omega) (by omega) (by omega) (by omega) W) W
     have HC:=hide hc
     rw [show quotS a b c d=combE (fun x y=>mdE x y) a b c d by unfold quotS;rw [if_pos hv,if_neg hz]]
     clear hz h1 h2 hv c1 hc
     (unfold Gives;go_enter Tryz.func252,Tryz.ntmps252)
     go_wp2_with (first|(go_at_call 140;refine (valid_any _ _ _ _ _).mono ?_;intro _)|(go_at_call 262;refine (in_any _ _ _ _).mono ?_;intro _)|(go_at_call 263;refine (HC.out _).mono ?_;intro _))
     all_goals (refine bodyPost_give Up.go rfl ⟨_,(by simp [results,Tryz.results252,go_sem];rfl),?_⟩)
     all_goals rfl
 · have hvb:(validE a b c d != 0)=true:=by simp [hv]
   rw [show quotS a b c d=(0,0,validE a b c d) by unfold quotS;rw [if_neg hv]]
   clear hv
   (unfold Gives;go_enter Tryz.func252,Tryz.ntmps252)
   go_wp2_with (go_at_call 140;refine (valid_any _ _ _ _ _).mono ?_;intro _)
   all_goals (refine bodyPost_give Up.go rfl ⟨_,(by simp [results,Tryz.results252,go_sem];rfl),?_⟩)
   all_goals rfl
def squareS (a b:Int):Int×Int×Int :=
 if checkE a b=0 then (if 1073741824<max (-a) b then (0,0,14) else endsS (max (max 0 a) (-b)*max (max 0 a) (-b)) (max (-a) b*max (-a) b)) else (0,0,checkE a b)
theorem sq_bound (m:Int) (h0:0≤m) (h1:m≤1073741824):0≤m*m∧m*m≤1152921504606846976 :=
 ⟨Int.mul_nonneg h0 h0,by have:=Int.mul_le_mul h1 h1 h0 (by omega);omega⟩
theorem wrap64_id {n:Int} (h0:-9223372036854775808≤n) (h1:n≤9223372036854775807):wrap64 n=n:=by unfold wrap64;omega
theorem square_any (a b:Int) (w:World):Gives Tryz.prog 257 #[.agg #[.int .i64 a,.int .i64 b]] w
 (.tuple #[.agg #[.int .i64 (squareS a b).1,.int .i64 (squareS a b).2.1],.int .i64 (squareS a b).2.2]):=by
 by_cases hv:checkE a b=0
 · obtain ⟨a0,a1,a2⟩:=check_zero hv
   have hvb:(checkE a b != 0)=false:=by simp [hv]
   have HE:squareS a b=if 1073741824<max (-a) b then (0,0,14) else endsS (max (max 0 a) (-b)*max (max 0 a) (-b)) (max (-a) b*max (-a) b):=by unfold squareS;rw [if_pos hv]
   rw [HE]
   clear HE hv
   (unfold Gives;go_enter Tryz.func257,Tryz.ntmps257)
   go_wp2_with (go_at_call 175;refine (check_any _ _ _).mono ?_;intro _)
   go_region
   all_goals (go_wp2_with (go_at_call 251;refine (ends_any _ _ _).mono ?_;intro _))
   · (refine bodyPost_give Up.go rfl ⟨_,(by simp [results,Tryz.results257,go_sem];rfl),?_⟩)
     rfl
   · (refine bodyPost_give Up.go rfl ⟨_,(by simp [results,Tryz.results257,go_sem];rfl),?_⟩)
     have h1:=sq_bound (max 0 (max a (-b))) (by omega) (by omega)
     have h2:=sq_bound (max (-a) b) (by omega) (by omega)
     rw [wrap64_id (by omega) (by omega),wrap64_id (by omega) (by omega)]
 · have hvb:(checkE a b != 0)=true:=by simp [hv]
   rw [show squareS a b=(0,0,checkE a b) by unfold squareS;rw [if_neg hv]]
   clear hv
   (unfold Gives;go_enter Tryz.func257,Tryz.ntmps257)
   go_wp2_with (go_at_call 175;refine (check_any _ _ _).mono ?_;intro _)
   all_goals (refine bodyPost_give Up.go rfl ⟨_,(by simp [results,Tryz.results257,go_sem];rfl),?_⟩)
   all_goals rfl
def rootGo:Nat→Nat→Nat→Nat
 | 0,_,o=>o
 | k+1,n,o=>rootGo k n (if (o+2^k)*(o+2^k)≤n then o+2^k else o)
theorem rootGo_spec:∀ (k n o:Nat),o*o≤n→n<(o+2^k)*(o+2^k)→rootGo k n o*rootGo k n o≤n∧n<(rootGo k n o+1)*(rootGo k n o+1)
 | 0,n,o,h1,h2=>by simp [rootGo];exact ⟨h1,by simpa using h2⟩
 | k+1,n,o,h1,h2=>by
  unfold rootGo
  split
  · rename_i h
    exact rootGo_spec k n _ h (by rw [Nat.pow_succ] at h2;rw [show o+2^k+2^k=o+2^k*2 by omega];exact h2)
  · rename_i h
    exact rootGo_spec k n o h1 (by omega)
def isq (n:Int):Int:=(rootGo 32 n.toNat 0:Nat)
theorem isq_spec (n:Int) (h0:0≤n) (h1:n<18446744073709551616):0≤isq n∧isq n*isq n≤n∧n<(isq n+1)*(isq n+1):=by
 obtain ⟨m,rfl⟩:=Int.eq_ofNat_of_zero_le h0
 have h:=rootGo_spec 32 m 0 (by omega) (by simp;omega)
 unfold isq
 simp only [Int.toNat_natCast]
 generalize rootGo 32 m 0=r at *
 refine ⟨by omega,?_,?_⟩
 · have:((r*r:Nat):Int)≤(m:Int):=by omega
   rwa [Int.natCast_mul] at this
 · have h2:(m:Int)<(((r+1)*(r+1):Nat):Int):=by omega
   rw [Int.natCast_mul,Int.natCast_add] at h2
   exact h2
theorem sq_le_sq {a b:Int} (h0:0≤a) (h:a≤b):a*a≤b*b:=Int.mul_le_mul h h h0 (by omega)
theorem lt_of_sq {a b:Int} (h0:0≤b) (h:a*a<b*b):a<b:=by
 by_cases hc:a<b
 · exact hc
 · have:=sq_le_sq h0 (show b≤a by omega)
   omega
theorem isq_eq {n r:Int} (h0:0≤n) (h1:n<18446744073709551616) (hr:0≤r) (h2:r*r≤n) (h3:n<(r+1)*(r+1)):r=isq n:=by
 obtain ⟨a,b,c⟩:=isq_spec n h0 h1
 have p1:r<isq n+1:=lt_of_sq (by omega) (by omega)
 have p2:isq n<r+1:=lt_of_sq (by omega) (by omega)
 omega
structure RootAt (n o B:Int):Prop where
 nonneg:0≤o
 sq:o*o≤n
 rest:(B=0∧n<(o+1)*(o+1))∨(∃ j:Nat,j≤31∧B=2^j∧(∃ c:Nat,o=((c*2^(j+1):Nat):Int))∧o+2*B≤4294967296∧n<(o+2*B)*(o+2*B))
theorem RootAt.start (n:Int) (h0:0≤n) (h1:n<18446744073709551616):RootAt n 0 2147483648 :=
 ⟨by omega,by omega,.inr ⟨31,by omega,by rfl,⟨0,by simp⟩,by omega,by omega⟩⟩
theorem half_pow (j:Nat):(2:Int)^(j+1) / 2=2^j:=by
 rw [Int.pow_succ];exact Int.mul_ediv_cancel _ (by omega)
theorem RootAt.step {n o B:Int} (h:RootAt n o B) (hB:0<B):∀ o',(o'=o+B∧(o+B)*(o+B)≤n∨o'=o∧n<(o+B)*(o+B))→RootAt n o' (B / 2):=by
 intro o' ho
 obtain ⟨h1,h2,h3⟩:=h
 rcases h3 with ⟨rfl,_⟩ | ⟨j,hj,rfl,⟨c,hc⟩,h4,h5⟩
 · omega
 · have key:n<(o'+2^j)*(o'+2^j):=by
    rcases ho with ⟨rfl,_⟩ | ⟨rfl,h⟩
    · rw [show o+2^j+2^j=o+2*2^j by omega];exact h5
    · exact h
   have hp0:(0:Int)<2^j:=Int.pow_pos (by omega)
   have ho0:0≤o':=by rcases ho with ⟨h,_⟩ | ⟨h,_⟩ <;> rw [h] <;> omega
   refine ⟨ho0,(by rcases ho with ⟨h,h'⟩ | ⟨h,h'⟩ <;> rw [h] <;> assumption),?_⟩
   cases j with
   | zero=>left;exact ⟨by decide,by simpa using key⟩
   | succ j =>
    right
    refine ⟨j,by omega,half_pow j,?_,?_,?_⟩
    · have hp:((2:Int)^(j+1))=((2^(j+1):Nat):Int):=by rw [Int.natCast_pow];rfl
      rcases ho with ⟨rfl,_⟩ | ⟨rfl,h⟩
      · refine ⟨2*c+1,?_⟩
        rw [hc,hp,← Int.natCast_add]
        congr 1
        rw [Nat.pow_succ 2 (j+1)]
        generalize 2^(j+1)=z
        grind
      · refine ⟨2*c,?_⟩
        rw [hc]
        congr 1
        rw [Nat.pow_succ 2 (j+1)]
        generalize 2^(j+1)=z
        grind
    · rw [half_pow,show 2*(2:Int)^j=2^(j+1) by rw [Int.pow_succ];omega]
      omega
    · rw [half_pow,show 2*(2:Int)^j=2^(j+1) by rw [Int.pow_succ];omega]
      exact key
end Go.Proofs.YteafglginnonnaaGreat
