/- A wide product divided by a number, rounded down and up: divide, MulDiv; and what that is in plain integers. Conditions: the words' ranges, a divisor that is not 0. -/
import Derived.Test.YteafglginnonnaaGreatDivX
import Derived.Test.YteafglginnonnaaGreatSkyP
import Derived.Test.YteafglginnonnaaGreatSpanC
set_option linter.unusedVariables false
set_option linter.unusedSimpArgs false
namespace Go.Proofs.YteafglginnonnaaGreat
open Go.RowKit
def quoS (q up:Int) (s:Bool):Int×Int×Int :=
 if 1152921504606846976<q∨1152921504606846976<up then (0,0,14) else if s=true then (-up,-q,0) else (q,up,0)
def divW (h l:Int) (b:Bool) (c:Int):Int×Int×Int :=
 if (c.natAbs:Int)≤h then (0,0,14) else
  quoS ((h*18446744073709551616+l) / c.natAbs) ((h*18446744073709551616+l) / c.natAbs+if (h*18446744073709551616+l) % c.natAbs=0 then 0 else 1) (b != decide (c<0))
set_option maxHeartbeats 1000000 in
theorem divide_any (h l:Int) (b:Bool) (c:Int) (h0:0≤h) (h1:h<18446744073709551616) (l0:0≤l) (l1:l<18446744073709551616)
 (c0:-9223372036854775808≤c) (c1:c≤9223372036854775807) (w:World) :
 Gives Tryz.prog 261 #[.agg #[.int .u64 h,.int .u64 l,.bool b],.int .i64 c] w
  (.tuple #[.int .i64 (divW h l b c).1,.int .i64 (divW h l b c).2.1,.int .i64 (divW h l b c).2.2]):=by
 by_cases hd:(c.natAbs:Int)≤h
 · (unfold Gives;go_enter Tryz.func261,Tryz.ntmps261)
   go_wp2_with (go_at_call 269;refine (size_any _ c0 c1 _).mono ?_;intro _)
   all_goals go_ret3
   all_goals refine ⟨?_,Up.go⟩
   all_goals simp [divW,hd]
 · have hd':h<(c.natAbs:Int):=by omega
   clear hd
   have hrd:=hide (rfl:divW h l b c=divW h l b c)
   obtain ⟨q,hq⟩:∃ q,(h*18446744073709551616+l) / c.natAbs=q:=⟨_,rfl⟩
   obtain ⟨r,hr⟩:∃ q,(h*18446744073709551616+l) % c.natAbs=q:=⟨_,rfl⟩
   have hq0:0≤q:=by rw [← hq];exact Int.ediv_nonneg (by omega) (by omega)
   have hr0:0≤r:=by rw [← hr];exact Int.emod_nonneg _ (by omega)
   have hq1:q<18446744073709551616:=by
    rw [← hq]
    apply Int.ediv_lt_of_lt_mul (by omega)
    have:(h+1)*18446744073709551616≤(c.natAbs:Int)*18446744073709551616:=Int.mul_le_mul_of_nonneg_right (by omega) (by omega)
    grind
   have hdiv:=fun W=>div64_any h l c.natAbs h0 hd' l0 l1 (by omega) W
   rw [hq,hr] at hdiv
   have hE:divW h l b c=quoS q (q+if r=0 then 0 else 1) (b != decide (c<0)):=by simp only [divW];rw [if_neg (by omega),hq,hr]
   rw [hE]
   clear hE hq hr hrd
   have HD:=hide hdiv
   clear hdiv
   (unfold Gives;go_enter Tryz.func261,Tryz.ntmps261)
   go_wp2_with (first|(go_at_call 269;refine (size_any _ c0 c1 _).mono ?_;intro _)|(go_at_call 256;refine (HD.out _).mono ?_;intro _))
   all_goals go_ret3
   all_goals refine ⟨?_,Up.go⟩
   all_goals (go_light;first|(simp_all [quoS];done)|(simp_all [quoS];omega)|(simp_all [quoS];repeat' split;all_goals (first|(simp_all;done)|omega|(simp_all;omega))))
def floQ (p c:Int):Int:=if c<0 then (-p) / (-c) else p / c
def ceiQ (p c:Int):Int:=-(floQ (-p) c)
def mdE (p c:Int):Int×Int×Int :=
 if -1152921504606846976≤floQ p c∧floQ p c≤1152921504606846976 ∧ -1152921504606846976≤ceiQ p c∧ceiQ p c≤1152921504606846976 then (floQ p c,ceiQ p c,0) else (0,0,14)
theorem quo_sizes (m d:Int) (hm:0≤m) (hd:0<d):((-m) / d = -(m / d+if m % d=0 then 0 else 1)):=by
 have h1:=Int.mul_ediv_add_emod m d
 have h2:=Int.emod_nonneg m (show d≠0 by omega)
 have h3:=Int.emod_lt_of_pos m hd
 generalize m / d=q at *
 generalize m % d=r at *
 split
 · rename_i h
   subst h
   have:-m=d*(-q):=by rw [← h1];grind
   rw [this,Int.mul_ediv_cancel_left _ (by omega)]
   omega
 · rename_i h
   have:-m=(d - r)+d*(-(q+1)):=by rw [← h1];grind
   rw [this,Int.add_mul_ediv_left _ _ (by omega),Int.ediv_eq_zero_of_lt (by omega) (by omega)]
   omega
theorem flo_abs (p c:Int) (hc:c≠0):floQ p c=if (decide (p<0) != decide (c<0))=true then -((p.natAbs:Int) / (c.natAbs:Int)+if (p.natAbs:Int) % (c.natAbs:Int)=0 then 0 else 1) else (p.natAbs:Int) / (c.natAbs:Int):=by
 have hq:=quo_sizes (p.natAbs:Int) (c.natAbs:Int) (by omega) (by omega)
 unfold floQ
 rcases Int.lt_or_gt_of_ne hc with hc0 | hc0
 · rw [if_pos hc0,show decide (c<0)=true by simpa using hc0,show -c=(c.natAbs:Int) by omega]
   by_cases hp:p<0
   · rw [show decide (p<0)=true by simpa using hp,show -p=(p.natAbs:Int) by omega];simp
   · rw [show decide (p<0)=false by simpa using hp,show -p = -(p.natAbs:Int) by omega,hq];simp
 · rw [if_neg (by omega),show decide (c<0)=false by simp;omega]
   obtain ⟨d,hd⟩:∃ d:Int,(c.natAbs:Int)=d:=⟨_,rfl⟩
   rw [hd] at hq ⊢
   rw [show c=d by omega]
   by_cases hp:p<0
   · obtain ⟨m,hm⟩:∃ m:Int,(p.natAbs:Int)=m:=⟨_,rfl⟩
     rw [hm] at hq ⊢
     rw [show decide (p<0)=true by simpa using hp,show p = -m by omega,hq];simp
   · obtain ⟨m,hm⟩:∃ m:Int,(p.natAbs:Int)=m:=⟨_,rfl⟩
     rw [hm] at hq ⊢
     rw [show decide (p<0)=false by simpa using hp,show p=m by omega];simp
theorem mdE_quoS (p c:Int) (hc:c≠0) (s:Bool) (hs:s=(decide (p<0) != decide (c<0))∨p=0) :
 mdE p c=quoS ((p.natAbs:Int) / (c.natAbs:Int)) ((p.natAbs:Int) / (c.natAbs:Int)+if (p.natAbs:Int) % (c.natAbs:Int)=0 then 0 else 1) s:=by
 by_cases hp:p=0
 · subst hp
   unfold mdE ceiQ quoS
   rw [show -(0:Int)=0 from rfl,flo_abs 0 c hc]
   cases s <;> simp
 · have h1:=flo_abs p c hc
   have h2:=flo_abs (-p) c hc
   rw [Int.natAbs_neg] at h2
   have hq0:0≤(p.natAbs:Int) / (c.natAbs:Int):=Int.ediv_nonneg (by omega) (by omega)
   have hsg:(decide (-p<0) != decide (c<0))=!(decide (p<0) != decide (c<0)):=by
    rw [show decide (-p<0)=!(decide (p<0)) by
     rcases Int.lt_or_gt_of_ne hp with h | h
     · rw [decide_eq_true h,decide_eq_false (by omega)];rfl
     · rw [decide_eq_true (by omega),decide_eq_false (by omega)];rfl]
    cases decide (p<0) <;> cases decide (c<0) <;> rfl
   rw [hsg] at h2
   obtain rfl:s=(decide (p<0) != decide (c<0)):=by rcases hs with h | h;exact h;exact absurd h hp
   generalize (decide (p<0) != decide (c<0))=s at *
   have hU:∃ U,((p.natAbs:Int) / (c.natAbs:Int)+if (p.natAbs:Int) % (c.natAbs:Int)=0 then 0 else 1)=U∧(p.natAbs:Int) / (c.natAbs:Int)≤U:=⟨_,rfl,by split <;> omega⟩
   obtain ⟨U,hU,hUQ⟩:=hU
   rw [hU] at h1 h2 ⊢
   generalize (p.natAbs:Int) / (c.natAbs:Int)=Q at *
   unfold mdE ceiQ
   rw [h1,h2]
   clear h1 h2 hU hs hsg
   unfold quoS
   cases s
   · simp only [Bool.false_eq_true,if_false,Bool.not_false,if_true]
     by_cases h:1152921504606846976<Q∨1152921504606846976<U
     · rw [if_pos h,if_neg (by omega)]
     · rw [if_neg h,if_pos (by omega)];simp
   · simp only [Bool.false_eq_true,if_false,Bool.not_true,if_true]
     by_cases h:1152921504606846976<Q∨1152921504606846976<U
     · rw [if_pos h,if_neg (by omega)]
     · rw [if_neg h,if_pos (by omega)]
theorem sgn_product (a b:Int):(decide (a<0) != decide (b<0))=decide (a*b<0)∨a*b=0:=by
 by_cases h0:a*b=0
 · exact .inr h0
 · left
   have ha:a≠0:=by rintro rfl;simp at h0
   have hb:b≠0:=by rintro rfl;simp at h0
   rcases Int.lt_or_gt_of_ne ha with h1 | h1 <;> rcases Int.lt_or_gt_of_ne hb with h2 | h2
   · have:=Int.mul_pos_of_neg_of_neg h1 h2
     simp [h1,h2];omega
   · have:=Int.mul_neg_of_neg_of_pos h1 h2
     simp [h1,this];omega
   · have:=Int.mul_neg_of_pos_of_neg h1 h2
     simp [h2,this];omega
   · have:=Int.mul_pos h1 h2
     rw [show decide (a<0)=false by simp;omega,show decide (b<0)=false by simp;omega,show decide (a*b<0)=false by simp;omega]
     rfl
theorem divW_product (a b c:Int) (hc:c≠0) :
 divW ((a.natAbs:Int)*b.natAbs / 18446744073709551616) ((a.natAbs:Int)*b.natAbs % 18446744073709551616) (decide (a<0) != decide (b<0)) c=mdE (a*b) c:=by
 have hn:(a.natAbs:Int)*b.natAbs=((a*b).natAbs:Int):=by rw [Int.natAbs_mul];exact (Int.natCast_mul _ _).symm
 rw [hn]
 have hs:=sgn_product a b
 generalize a*b=p at *
 generalize (decide (a<0) != decide (b<0))=sg at *
 rw [mdE_quoS p c hc (sg != decide (c<0)) (by rcases hs with h | h;exact .inl (by rw [h]);exact .inr h)]
 have hmm:=Int.mul_ediv_add_emod (p.natAbs:Int) 18446744073709551616
 unfold divW
 rw [show (p.natAbs:Int) / 18446744073709551616*18446744073709551616+(p.natAbs:Int) % 18446744073709551616=p.natAbs by omega]
 split
 · rename_i h
   have h1:(c.natAbs:Int)*18446744073709551616≤p.natAbs:=by omega
   have h2:=(Int.le_ediv_iff_mul_le (show 0<(c.natAbs:Int) by omega)).2 (show 18446744073709551616*(c.natAbs:Int)≤p.natAbs by rw [Int.mul_comm];exact h1)
   unfold quoS
   rw [if_pos (by omega)]
 · rfl
theorem product_divide (a b c:Int) (ha0:-9223372036854775808≤a) (ha1:a≤9223372036854775807) (hb0:-9223372036854775808≤b) (hb1:b≤9223372036854775807)
 (hc:c≠0) (c0:-9223372036854775808≤c) (c1:c≤9223372036854775807) (w:World) :
 Gives Tryz.prog 261 #[.agg #[.int .u64 ((a.natAbs:Int)*b.natAbs / 18446744073709551616),.int .u64 ((a.natAbs:Int)*b.natAbs % 18446744073709551616),.bool (decide (a<0) != decide (b<0))],.int .i64 c] w
  (.tuple #[.int .i64 (mdE (a*b) c).1,.int .i64 (mdE (a*b) c).2.1,.int .i64 (mdE (a*b) c).2.2]):=by
 have hm:(a.natAbs:Int)*b.natAbs≤9223372036854775808*9223372036854775808:=Int.mul_le_mul (by omega) (by omega) (by omega) (by omega)
 have hm0:0≤(a.natAbs:Int)*b.natAbs:=Int.mul_nonneg (by omega) (by omega)
 rw [← divW_product a b c hc]
 exact divide_any _ _ _ c (by omega) (by omega) (by omega) (by omega) c0 c1 w
def mulDivE (a b c:Int):Int×Int×Int:=if fitsB a=true∧fitsB b=true∧fitsB c=true∧¬ c=0 then mdE (a*b) c else (0,0,2)
theorem muldiv_any (a b c:Int) (w:World):Gives Tryz.prog 249 #[.int .i64 a,.int .i64 b,.int .i64 c] w
 (.tuple #[.int .i64 (mulDivE a b c).1,.int .i64 (mulDivE a b c).2.1,.int .i64 (mulDivE a b c).2.2]):=by
 by_cases h:fitsB a=true∧fitsB b=true∧fitsB c=true∧¬ c=0
 · obtain ⟨h1,h2,h3,h4⟩:=h
   obtain ⟨a0,a1⟩:=(fits_iff a).1 h1
   obtain ⟨b0,b1⟩:=(fits_iff b).1 h2
   obtain ⟨c0,c1⟩:=(fits_iff c).1 h3
   have hcb:(c==0)=false:=by simp [h4]
   have HP:=fun W=>product_divide a b c (by omega) (by omega) (by omega) (by omega) h4 (by omega) (by omega) W
   have HE:mulDivE a b c=mdE (a*b) c:=by unfold mulDivE;rw [if_pos ⟨h1,h2,h3,h4⟩]
   rw [HE]
   have HQ:=hide HP
   clear HP HE
   (unfold Gives;go_enter Tryz.func249,Tryz.ntmps249)
   go_wp2_with (first|(go_at_call 196;refine (fits_any _ _).mono ?_;intro _)|(go_at_call 260;refine (product_any _ _ (by omega) (by omega) (by omega) (by omega) _).mono ?_;intro _)|(go_at_call 261;refine (HQ.out _).mono ?_;intro _))
   go_ret3
   exact ⟨rfl,Up.go⟩
 · have HE:mulDivE a b c=(0,0,2):=by unfold mulDivE;rw [if_neg h]
   rw [HE]
   cases ha:fitsB a with
   | false =>
    (unfold Gives;go_enter Tryz.func249,Tryz.ntmps249)
    go_wp2_with (go_at_call 196;refine (fits_any _ _).mono ?_;intro _)
    go_ret3
    exact ⟨rfl,Up.go⟩
   | true =>
    cases hb:fitsB b with
    | false =>
     (unfold Gives;go_enter Tryz.func249,Tryz.ntmps249)
     go_wp2_with (go_at_call 196;refine (fits_any _ _).mono ?_;intro _)
     go_ret3
     exact ⟨rfl,Up.go⟩
    | true =>
     cases hc:fitsB c with
     | false =>
      (unfold Gives;go_enter Tryz.func249,Tryz.ntmps249)
      go_wp2_with (go_at_call 196;refine (fits_any _ _).mono ?_;intro _)
      go_ret3
      exact ⟨rfl,Up.go⟩
     | true =>
      obtain rfl:c=0:=by
       by_cases h0:c=0
       · exact h0
       · exact absurd ⟨ha,hb,hc,h0⟩ h
      clear h HE
      (unfold Gives;go_enter Tryz.func249,Tryz.ntmps249)
      go_wp2_with (go_at_call 196;refine (fits_any _ _).mono ?_;intro _)
      go_ret3
      exact ⟨rfl,Up.go⟩
end Go.Proofs.YteafglginnonnaaGreat
