/- The long division of two words by one, in plain integers: an estimate of a digit, its test, its correction. No program. -/
import Derived.KernelRfl
namespace Go.Proofs.YteafglginnonnaaGreat.Dv
theorem split (x:Int) (hx:0≤x):x=4294967296*(x / 4294967296)+x % 4294967296∧0≤x / 4294967296∧0≤x % 4294967296∧x % 4294967296<4294967296:=by omega
theorem true_le (u d y:Int) (hy:0<y) (hu:u<y) (hu0:0≤u) (hd0:0≤d) (hd:d<4294967296) :
 0≤(u*4294967296+d) / y∧(u*4294967296+d) / y<4294967296:=by
 constructor
 · exact Int.ediv_nonneg (by omega) (by omega)
 · apply Int.ediv_lt_of_lt_mul hy
   have:(u+1)*4294967296≤y*4294967296:=Int.mul_le_mul_of_nonneg_right (by omega) (by omega)
   grind
theorem q_le (n q y:Int) (hy:0<y) (h:q*y≤n):q≤n / y:=(Int.le_ediv_iff_mul_le hy).2 h
theorem q_gt (n q y:Int) (hy:0<y) (h:n<q*y):n / y<q:=Int.ediv_lt_of_lt_mul hy h
theorem test_iff (u d q r a b:Int) (h:q*a+r=u) :
 (4294967296*r+d<q*b)↔(u*4294967296+d<q*(4294967296*a+b)):=by
 subst h
 have:(q*a+r)*4294967296+d=q*a*4294967296+(4294967296*r+d):=by grind
 have h2:q*(4294967296*a+b)=q*a*4294967296+q*b:=by grind
 omega
theorem est_ge (u d a b:Int) (ha:0<a) (hb:0≤b) (hd0:0≤d) (hu0:0≤u) (hd:d<4294967296) :
 (u*4294967296+d) / (4294967296*a+b)≤u / a:=by
 have h1:=Int.mul_ediv_add_emod u a
 have h2:=Int.emod_nonneg u (show a≠0 by omega)
 have h3:=Int.emod_lt_of_pos u ha
 have hq:0≤u / a:=Int.ediv_nonneg hu0 (by omega)
 apply Int.le_of_lt_add_one
 apply Int.ediv_lt_of_lt_mul (by omega)
 generalize u / a=q at *
 generalize u % a=r at *
 have e:(q+1)*(4294967296*a+b)=4294967296*(a*q)+4294967296*a+(q+1)*b:=by grind
 have hp:0≤(q+1)*b:=Int.mul_nonneg (by omega) hb
 rw [e]
 have:u=a*q+r:=by omega
 subst this
 have:(a*q+r)*4294967296=4294967296*(a*q)+r*4294967296:=by grind
 omega
theorem est_le (u a b:Int) (ha:2147483648≤a) (hu:u<4294967296*a+b) (hb:b<4294967296) :
 u / a≤4294967297:=by
 apply Int.le_of_lt_add_one
 apply Int.ediv_lt_of_lt_mul (by omega)
 omega
theorem digit_eq (u d y q:Int) (hy:0<y) (h1:(u*4294967296+d) / y≤q) (h2:q*y≤u*4294967296+d):q=(u*4294967296+d) / y:=by
 have:=q_le _ _ _ hy h2
 omega
theorem rem_eq (n y q:Int) (h:q=n / y):n - q*y=n % y:=by
 subst h;have:=Int.mul_ediv_add_emod n y;grind
theorem brk (u d q r a b:Int) (h:q*a+r=u) (hr:4294967296≤r) (hq:q≤4294967296) (hb0:0≤b) (hb:b<4294967296) (hd:0≤d) :
 q*(4294967296*a+b)≤u*4294967296+d:=by
 have h1:=test_iff u d q r a b h
 have:q*b≤4294967296*4294967295:=by
  by_cases h0:0≤q
  · exact Int.mul_le_mul hq (by omega) hb0 (by omega)
  · have:q*b≤0:=Int.mul_nonpos_of_nonpos_of_nonneg (by omega) hb0
    omega
 omega
theorem two_digits (n y u1 d1 d0:Int) (hy:0<y) (hn:n=(u1*4294967296+d1)*4294967296+d0) :
 n / y=(u1*4294967296+d1) / y*4294967296+((u1*4294967296+d1) % y*4294967296+d0) / y ∧
 n % y=((u1*4294967296+d1) % y*4294967296+d0) % y:=by
 generalize hm:u1*4294967296+d1=m at *
 have e:=Int.mul_ediv_add_emod m y
 generalize hq:m / y=q at *
 generalize hr:m % y=r at *
 have:n=(r*4294967296+d0)+y*(q*4294967296):=by subst hn;rw [← e];grind
 rw [this]
 constructor
 · rw [Int.add_mul_ediv_left _ _ (by omega)];omega
 · rw [Int.add_mul_emod_self_left]
theorem scaled (hi lo p r:Int) (hp:0<p) (h:p*r=18446744073709551616) :
 (hi*18446744073709551616+lo)*p=(hi*p+lo / r)*18446744073709551616+lo*p % 18446744073709551616:=by
 have h1:lo*p / 18446744073709551616=lo / r:=by
  rw [← h,Int.mul_comm lo p,Int.mul_ediv_mul_of_pos _ _ hp]
 have h2:=Int.mul_ediv_add_emod (lo*p) 18446744073709551616
 rw [h1] at h2
 grind
theorem upper_lt (hi lo y p r:Int) (h1:hi<y) (hp:0<p) (hr:0<r) (h:p*r=18446744073709551616) (hl0:0≤lo) (hl:lo<18446744073709551616) :
 hi*p+lo / r<y*p:=by
 have h2:lo / r<p:=Int.ediv_lt_of_lt_mul hr (by omega)
 have h3:(hi+1)*p≤y*p:=Int.mul_le_mul_of_nonneg_right (by omega) (by omega)
 grind
theorem unscaled (n y p:Int) (hp:0<p):n*p / (y*p)=n / y∧n*p % (y*p) / p=n % y:=by
 constructor
 · exact Int.mul_ediv_mul_of_pos_left _ _ hp
 · have e:n*p % (y*p)=(n % y)*p:=by
    rw [Int.emod_def,Int.emod_def,Int.mul_ediv_mul_of_pos_left _ _ hp]
    grind
   rw [e]
   exact Int.mul_ediv_cancel _ (by omega)
end Go.Proofs.YteafglginnonnaaGreat.Dv
