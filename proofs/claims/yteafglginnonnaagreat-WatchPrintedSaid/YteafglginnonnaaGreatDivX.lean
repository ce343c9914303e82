/- Several texts in one. -/
import Derived.Test.YteafglginnonnaaGreatModk
import Derived.Test.YteafglginnonnaaGreatBits
import Derived.Test.YteafglginnonnaaGreatDiv
import Derived.Lib.ItoaNum
import Derived.Deep.DeepCutAuto
import Derived.Deep.CutBlock
import Derived.Laws.Bits64b
/- The long division of the library, math/bits.Div64: two words by one. -/
set_option linter.unusedVariables false
set_option linter.unusedSimpArgs false
namespace Go.Proofs.YteafglginnonnaaGreat
open Go.RowKit
theorem lead64_any (x:Int) (w:World) (h0:0≤x) (h1:x≤18446744073709551615) :
 Gives Tryz.prog 266 #[.int .u64 x] w (.int .i64 (64 - (Lib.bitLen x.toNat:Int))):=by
 have l:=Lib.bitLen_le x.toNat 64 (by omega) (by omega)
 (unfold Gives;go_enter Tryz.func266,Tryz.ntmps266)
 go_wp2_with (go_at_call 271;refine (len64_any _ _ h0 h1).mono ?_;rintro e w' ⟨rfl,rfl⟩)
 go_ret
 exact ⟨rfl,Up.go⟩
theorem scale_of (y:Int) (h0:0<y) (h1:y<18446744073709551616):∃ s:Nat,s<64∧(64 - (Lib.bitLen y.toNat:Int))=s∧9223372036854775808≤y*2^s∧y*2^s<18446744073709551616:=by
 obtain ⟨n,rfl⟩:=Int.eq_ofNat_of_zero_le (Int.le_of_lt h0)
 obtain ⟨a,b,c⟩:=Lib.bitLenAux_bounds 64 n (by omega) (by omega)
 have d:=Lib.bitLen_le n 64 (by omega) (by omega)
 simp only [Int.toNat_natCast]
 unfold Lib.bitLen at *
 generalize Lib.bitLenAux 64 n=k at *
 refine ⟨64 - k,by omega,by omega,?_,?_⟩
 · have e:2^(k - 1)*2^(64 - k)=2^63:=by rw [← Nat.pow_add];congr 1;omega
   have:=Nat.mul_le_mul_right (2^(64 - k)) b
   rw [e] at this
   have h:((2^63:Nat):Int)≤((n*2^(64 - k):Nat):Int):=by exact_mod_cast this
   rw [Int.natCast_mul,Int.natCast_pow] at h
   simpa using h
 · have e:2^k*2^(64 - k)=2^64:=by rw [← Nat.pow_add];congr 1;omega
   have:=Nat.mul_lt_mul_of_pos_right c (Nat.two_pow_pos (64 - k))
   rw [e] at this
   have h:((n*2^(64 - k):Nat):Int)<((2^64:Nat):Int):=by exact_mod_cast this
   rw [Int.natCast_mul,Int.natCast_pow] at h
   simpa using h
theorem or_add (u v p r:Int) (s:Nat) (hu:0≤u) (hv:0≤v) (hp:p=2^s) (hvp:v<p) (h:u*p+v<18446744073709551616):bits .or .u64 (u*p) v=u*p+v:=by
 subst hp
 obtain ⟨a,rfl⟩:=Int.eq_ofNat_of_zero_le hu
 obtain ⟨b,rfl⟩:=Int.eq_ofNat_of_zero_le hv
 have hb:b<2^s:=by exact_mod_cast hvp
 have e:(a:Int)*2^s=((a*2^s:Nat):Int):=by rw [Int.natCast_mul,Int.natCast_pow];rfl
 rw [e] at h ⊢
 clear e hv hu hvp
 have ha:a*2^s+b<18446744073709551616:=by
  have h':=h
  generalize a*2^s=A at h' ⊢
  omega
 have h3:=bits_or_u64_nat (a*2^s) b (Nat.lt_of_le_of_lt (Nat.le_add_right _ _) ha) (Nat.lt_of_le_of_lt (Nat.le_add_left _ _) ha)
 rw [h3,← Int.natCast_add]
 congr 1
 rw [Nat.mul_comm]
 exact (Nat.two_pow_add_eq_or_of_lt hb a).symm
theorem and_mask (x:Int) (h0:0≤x) (h1:x<18446744073709551616):bits .and .u64 x 4294967295=x % 4294967296:=by
 obtain ⟨a,rfl⟩:=Int.eq_ofNat_of_zero_le h0
 have h:=bits_and_u64_nat a 4294967295 (by omega) (by omega)
 have e:a &&& 4294967295=a % 4294967296:=Nat.and_two_pow_sub_one_eq_mod a 32
 rw [e] at h
 exact h
set_option maxHeartbeats 1000000 in
theorem div64_small (lo y:Int) (h1:0<y) (l0:0≤lo) (l1:lo<18446744073709551616) (y1:y<18446744073709551616) (w:World) :
 Gives Tryz.prog 256 #[.int .u64 0,.int .u64 lo,.int .u64 y] w (.tuple #[.int .u64 (lo / y),.int .u64 (lo % y)]):=by
 have hy0:(y==0)=false:=by simp;omega
 (unfold Gives;go_enter Tryz.func256,Tryz.ntmps256)
 go_wp2
 ((first | with_reducible refine wp_region_ext2 (by kernel_rfl) (by kernel_rfl) ?_ | refine wp_region_ext (by kernel_rfl) (by kernel_rfl) ?_);(repeat (go_big_quiet_step (fail)));refine wpQuiet_nil ?_;intro _ hw';obtain ⟨_,hw''⟩:=hw';subst hw'')
 go_wp2
 go_ret2
 exact ⟨rfl,Up.go⟩
def Est (U d a b Q:Int) (q r:Int):Prop:=q*a+r=U∧Q=(U*4294967296+d) / (4294967296*a+b)∧Q≤q∧0≤Q∧q≤4294967297∧0≤r
theorem Est.test {U d a b Q q r:Int} (h:Est U d a b Q q r) (ha:0<a) (hb:0≤b):4294967296*r+d<q*b↔Q<q:=by
 obtain ⟨h1,h2,h3,h4,h5,h6⟩:=h
 rw [Dv.test_iff U d q r a b h1]
 constructor
 · intro h
   have:=Dv.q_gt _ _ _ (by omega) h
   omega
 · intro h
   by_cases hc:U*4294967296+d<q*(4294967296*a+b)
   · exact hc
   · have:=Dv.q_le (U*4294967296+d) q (4294967296*a+b) (by omega) (by omega)
     omega
theorem Est.down {U d a b Q q r:Int} (h:Est U d a b Q q r) (ha:0<a) (hq:Q<q):Est U d a b Q (q - 1) (r+a):=by
 obtain ⟨h1,h2,h3,h4,h5,h6⟩:=h
 refine ⟨?_,h2,by omega,h4,by omega,by omega⟩
 rw [← h1];grind
theorem Est.stop {U d a b Q q r:Int} (h:Est U d a b Q q r) (ha:0<a) (hb:0≤b) (hb1:b<4294967296) (hd:0≤d) (hr:4294967296≤r) (hq:q≤4294967296):q=Q:=by
 obtain ⟨h1,h2,h3,h4,h5,h6⟩:=h
 have h7:=Dv.brk U d q r a b h1 hr hq hb hb1 hd
 rw [h2] at h3 ⊢
 exact Dv.digit_eq U d _ q (by omega) h3 h7
theorem div64_walk (hi lo y p r U L Y a b d1 d0 Q1 R1 Q0 R0 m1 r1 m0 r0 A1 A2 A3 B1 B2 B3:Int) (s t:Nat) (h0:0<hi) (h1:hi<y) (l0:0≤lo) (l1:lo<18446744073709551616)
 (y1:y<18446744073709551616) (w:World)
 (hs:s<64) (hs1:(64 - (Lib.bitLen y.toNat:Int))=s) (ht:t≤64) (hst:(64:Int) - s=t) (hp:(2:Int)^s=p) (hr:(2:Int)^t=r)
 (eY:IntKind.u64.wrap (y*p)=Y) (eH:IntKind.u64.wrap (hi*p)=hi*p) (eU:bits .or .u64 (hi*p) (lo / r)=U) (eL:IntKind.u64.wrap (lo*p)=L)
 (ea:Y / 4294967296=a) (eb:bits .and .u64 Y 4294967295=b) (e1:L / 4294967296=d1) (e0:bits .and .u64 L 4294967295=d0)
 (a0:2147483648≤a) (a1:a<4294967296) (b0:0≤b) (b1:b<4294967296) (U0:0≤U) (U1:U<18446744073709551616)
 (d10:0≤d1) (d11:d1<4294967296) (d00:0≤d0) (d01:d0<4294967296) (R10:0≤R1) (R11:R1<18446744073709551616)
 (Q10:0≤Q1) (Q11:Q1<4294967296) (Q00:0≤Q0) (Q01:Q0<4294967296)
 (em1:IntKind.u64.wrap (U / a*a)=m1) (er1:IntKind.u64.wrap (U - m1)=r1)
 (eA1:IntKind.u64.wrap (U*4294967296)=A1) (eA2:IntKind.u64.wrap (A1+d1)=A2) (eA3:IntKind.u64.wrap (Q1*Y)=A3) (eR1:IntKind.u64.wrap (A2 - A3)=R1)
 (em0:IntKind.u64.wrap (R1 / a*a)=m0) (er0:IntKind.u64.wrap (R1 - m0)=r0)
 (eB1:IntKind.u64.wrap (R1*4294967296)=B1) (eB2:IntKind.u64.wrap (B1+d0)=B2) (eB3:IntKind.u64.wrap (Q0*Y)=B3) (eR0:IntKind.u64.wrap (B2 - B3)=R0)
 (k1:Hid (Est U d1 a b Q1 (U / a) r1)) (k0:Hid (Est R1 d0 a b Q0 (R1 / a) r0)) (r10:r1<4294967296) (r00:r0<4294967296) :
 Gives Tryz.prog 256 #[.int .u64 hi,.int .u64 lo,.int .u64 y] w (.tuple #[.int .u64 (Q1*4294967296+Q0),.int .u64 (R0 / p)]):=by
 have hy0:(y==0)=false:=by simp;omega
 have hh:(hi==0)=false:=by simp;omega
 (unfold Gives;go_enter Tryz.func256,Tryz.ntmps256)
 go_upto_block 0 with (go_at_call 266;refine (lead64_any _ _ (by omega) (by omega)).mono ?_;intro px)
 go_cut [15] (fun s15 wx=>s15=.int .u64 Q1∧wx=ext w px)
 case first =>
  clear hy0 hh hs1 hst hp hr eY eH eU eL ea eb e1 e0 em1 er1 eA1 eA2 eA3 eR1 em0 er0 eB1 eB2 eB3 eR0
  go_wp2_with fail
  go_loop [15,16] (fun s15 s16=>∃ q r:Int,s15=.int .u64 q∧s16=.int .u64 r∧Hid (Est U d1 a b Q1 q r)∧0≤q∧q≤4294967297∧0≤r∧r<4294967296) (fun s15 _=>(intOf s15).toNat)
  case atStart=>exact ⟨_,_,rfl,rfl,k1,by have:=k1.out.2.2;omega,k1.out.2.2.2.2.1,k1.out.2.2.2.2.2,r10⟩
  case round =>
   obtain ⟨q,r,rfl,rfl,hE,q00,q01,r00,r01⟩:=hrel
   have hm0:0≤q*b:=Int.mul_nonneg q00 b0
   have hm1:q*b≤4294967297*4294967295:=Int.mul_le_mul q01 (by omega) b0 (by omega)
   have ht:=hE.out.test (by omega) b0
   have hge:=hE.out.2.2.1
   obtain ⟨m,hm⟩:∃ m,q*b=m:=⟨_,rfl⟩
   have hw:IntKind.u64.wrap (q*b)=m:=by rw [hm,IntKind.wrap_u64];omega
   rw [hm] at ht
   clear hm hm0 hm1
   by_cases hq:Q1<q
   · have hdn:=hide (hE.out.down (by omega) hq)
     have hlt:=ht.2 hq
     clear hge
     by_cases hr:4294967296≤r+a
     · have hst:=hdn.out.stop (by omega) b0 b1 d10 hr (by omega)
       obtain rfl:q=Q1+1:=by omega
       have HE:=hide hE.out
       clear hE hst ht hdn hq
       by_cases hA:4294967296≤Q1+1
       all_goals
        go_wp2
        go_meet
        case rel=>exact ⟨by simp,rfl⟩
     · clear ht
       have hq1:1≤q:=by omega
       by_cases hA:4294967296≤q
       all_goals
        go_wp2
        go_round
        case rel=>exact ⟨q - 1,r+a,rfl,rfl,hdn,by omega,by omega,by omega,by omega⟩
        case measure=>simp [intOf];omega
   · obtain rfl:q=Q1:=by omega
     have hno:¬ 4294967296*r+d1<m:=by rw [ht];omega
     clear ht hq hge
     go_wp2
     go_meet
     case rel=>exact ⟨rfl,rfl⟩
 case rest =>
  obtain ⟨rfl,rfl⟩:=hcut
  go_upto_block 2 with fail
  go_cut [18] (fun s18 wx=>s18=.int .u64 Q0∧wx=ext w px)
  case first =>
   clear hy0 hh hs1 hst hp hr eY eH eU eL ea eb e1 e0 em1 er1 eA1 eA2 eA3 eR1 em0 er0 eB1 eB2 eB3 eR0
   go_wp2_with fail
   go_loop [18,16] (fun s18 s16=>∃ q r:Int,s18=.int .u64 q∧s16=.int .u64 r∧Hid (Est R1 d0 a b Q0 q r)∧0≤q∧q≤4294967297∧0≤r∧r<4294967296) (fun s18 _=>(intOf s18).toNat)
   case atStart=>exact ⟨_,_,rfl,rfl,k0,by have:=k0.out.2.2;omega,k0.out.2.2.2.2.1,k0.out.2.2.2.2.2,r00⟩
   case round =>
    obtain ⟨q,r,rfl,rfl,hE,q00,q01,r00,r01⟩:=hrel
    have hm0:0≤q*b:=Int.mul_nonneg q00 b0
    have hm1:q*b≤4294967297*4294967295:=Int.mul_le_mul q01 (by omega) b0 (by omega)
    have ht:=hE.out.test (by omega) b0
    have hge:=hE.out.2.2.1
    obtain ⟨m,hm⟩:∃ m,q*b=m:=⟨_,rfl⟩
    have hw:IntKind.u64.wrap (q*b)=m:=by rw [hm,IntKind.wrap_u64];omega
    rw [hm] at ht
    clear hm hm0 hm1
    by_cases hq:Q0<q
    · have hdn:=hide (hE.out.down (by omega) hq)
      have hlt:=ht.2 hq
      clear hge
      by_cases hr:4294967296≤r+a
      · have hst:=hdn.out.stop (by omega) b0 b1 d00 hr (by omega)
        obtain rfl:q=Q0+1:=by omega
        have HE:=hide hE.out
        clear hE hst ht hdn hq
        by_cases hA:4294967296≤Q0+1
        all_goals
         go_wp2
         go_meet
         case rel=>exact ⟨by simp,rfl⟩
      · clear ht
        have hq1:1≤q:=by omega
        by_cases hA:4294967296≤q
        all_goals
         go_wp2
         go_round
         case rel=>exact ⟨q - 1,r+a,rfl,rfl,hdn,by omega,by omega,by omega,by omega⟩
         case measure=>simp [intOf];omega
    · obtain rfl:q=Q0:=by omega
      have hno:¬ 4294967296*r+d0<m:=by rw [ht];omega
      clear ht hq hge
      go_wp2
      go_meet
      case rel=>exact ⟨rfl,rfl⟩
  case rest =>
   obtain ⟨rfl,rfl⟩:=hcut
   go_wp2
   go_ret2
   exact ⟨rfl,Up.go⟩
theorem wrapU (x:Int):IntKind.u64.wrap x=x % 18446744073709551616:=IntKind.wrap_u64 x
theorem rest_wrap (u d q y:Int) (h0:0≤(u*4294967296+d) - q*y) (h1:(u*4294967296+d) - q*y<18446744073709551616) :
 IntKind.u64.wrap (IntKind.u64.wrap (IntKind.u64.wrap (u*4294967296)+d) - IntKind.u64.wrap (q*y))=(u*4294967296+d) - q*y:=by
 simp only [wrapU]
 generalize u*4294967296=x at *
 generalize q*y=z at *
 omega
theorem est_first (U d a b:Int) (ha:2147483648≤a) (hb:0≤b) (hb1:b<4294967296) (hU0:0≤U) (hU:U<4294967296*a+b) (hd0:0≤d) (hd:d<4294967296) :
 Est U d a b ((U*4294967296+d) / (4294967296*a+b)) (U / a) (U % a):=by
 refine ⟨?_,rfl,Dv.est_ge U d a b (by omega) hb hd0 hU0 hd,?_,Dv.est_le U a b ha hU hb1,Int.emod_nonneg _ (by omega)⟩
 · have:=Int.mul_ediv_add_emod U a;grind
 · exact (Dv.true_le U d (4294967296*a+b) (by omega) hU hU0 hd0 hd).1
theorem div64_big (hi lo y:Int) (h0:0<hi) (h1:hi<y) (l0:0≤lo) (l1:lo<18446744073709551616) (y1:y<18446744073709551616) (w:World) :
 Gives Tryz.prog 256 #[.int .u64 hi,.int .u64 lo,.int .u64 y] w (.tuple #[.int .u64 ((hi*18446744073709551616+lo) / y),.int .u64 ((hi*18446744073709551616+lo) % y)]):=by
 obtain ⟨s,hs,hs1,hY0,hY1⟩:=scale_of y (by omega) y1
 obtain ⟨t,ht⟩:∃ t:Nat,t=64 - s:=⟨_,rfl⟩
 obtain ⟨p,hp⟩:∃ p:Int,2^s=p:=⟨_,rfl⟩
 obtain ⟨r,hr⟩:∃ r:Int,2^t=r:=⟨_,rfl⟩
 rw [hp] at hY0 hY1
 have hp0:0<p:=by rw [← hp];exact Int.pow_pos (by omega)
 have hr0:0<r:=by rw [← hr];exact Int.pow_pos (by omega)
 have hpr:p*r=18446744073709551616:=by
  rw [← hp,← hr,← Int.pow_add,ht,show s+(64 - s)=64 by omega];rfl
 have hsc:=Dv.scaled hi lo p r hp0 hpr
 have hup:=Dv.upper_lt hi lo y p r h1 hp0 hr0 hpr l0 l1
 have hun:=Dv.unscaled (hi*18446744073709551616+lo) y p hp0
 have hlr0:0≤lo / r:=Int.ediv_nonneg l0 (by omega)
 have hlr1:lo / r<p:=Int.ediv_lt_of_lt_mul hr0 (by rw [hpr];exact l1)
 have hhp0:0≤hi*p:=Int.mul_nonneg (by omega) (by omega)
 obtain ⟨U,hU⟩:∃ U,hi*p+lo / r=U:=⟨_,rfl⟩
 obtain ⟨L,hL⟩:∃ L,lo*p % 18446744073709551616=L:=⟨_,rfl⟩
 obtain ⟨Y,hY⟩:∃ Y,y*p=Y:=⟨_,rfl⟩
 have eU:=or_add hi (lo / r) p r s (by omega) hlr0 hp.symm hlr1 (by omega)
 have hL0:0≤L∧L<18446744073709551616:=by omega
 rw [hY] at hY0 hY1 hup hun
 rw [hU] at hup hsc eU
 rw [hL] at hsc
 obtain ⟨a,ha⟩:∃ a,Y / 4294967296=a:=⟨_,rfl⟩
 obtain ⟨b,hb⟩:∃ b,Y % 4294967296=b:=⟨_,rfl⟩
 obtain ⟨d1,hd1⟩:∃ d,L / 4294967296=d:=⟨_,rfl⟩
 obtain ⟨d0,hd0⟩:∃ d,L % 4294967296=d:=⟨_,rfl⟩
 have hYab:Y=4294967296*a+b:=by omega
 have hU0:0≤U:=by omega
 have ba:2147483648≤a∧a<4294967296∧0≤b∧b<4294967296:=by omega
 have bd:0≤d1∧d1<4294967296∧0≤d0∧d0<4294967296:=by omega
 have htwo:=Dv.two_digits ((hi*18446744073709551616+lo)*p) Y U d1 d0 (by omega) (by rw [hsc];omega)
 have t1:=Dv.true_le U d1 Y (by omega) hup hU0 bd.1 bd.2.1
 obtain ⟨Q1,hQ1⟩:∃ q,(U*4294967296+d1) / Y=q:=⟨_,rfl⟩
 obtain ⟨R1,hR1⟩:∃ q,(U*4294967296+d1) % Y=q:=⟨_,rfl⟩
 have bR1:0≤R1∧R1<Y:=by rw [← hR1];exact ⟨Int.emod_nonneg _ (by omega),Int.emod_lt_of_pos _ (by omega)⟩
 have eR1:=Dv.rem_eq (U*4294967296+d1) Y Q1 hQ1.symm
 rw [hQ1,hR1] at htwo
 rw [hQ1] at t1
 rw [hR1] at eR1
 have t0:=Dv.true_le R1 d0 Y (by omega) bR1.2 bR1.1 bd.2.2.1 bd.2.2.2
 obtain ⟨Q0,hQ0⟩:∃ q,(R1*4294967296+d0) / Y=q:=⟨_,rfl⟩
 obtain ⟨R0,hR0⟩:∃ q,(R1*4294967296+d0) % Y=q:=⟨_,rfl⟩
 have bR0:0≤R0∧R0<Y:=by rw [← hR0];exact ⟨Int.emod_nonneg _ (by omega),Int.emod_lt_of_pos _ (by omega)⟩
 have eR0:=Dv.rem_eq (R1*4294967296+d0) Y Q0 hQ0.symm
 rw [hQ0,hR0] at htwo
 rw [hQ0] at t0
 rw [hR0] at eR0
 have k1:=est_first U d1 a b ba.1 ba.2.2.1 ba.2.2.2 hU0 (by omega) bd.1 bd.2.1
 have k0:=est_first R1 d0 a b ba.1 ba.2.2.1 ba.2.2.2 bR1.1 (by omega) bd.2.2.1 bd.2.2.2
 rw [← hYab] at k1 k0
 rw [hQ1] at k1
 rw [hQ0] at k0
 have w1:=rest_wrap U d1 Q1 Y (by omega) (by omega)
 have w0:=rest_wrap R1 d0 Q0 Y (by omega) (by omega)
 rw [eR1] at w1
 rw [eR0] at w0
 have m1:IntKind.u64.wrap (U - IntKind.u64.wrap (U / a*a))=U % a:=by
  have h:=Int.mul_ediv_add_emod U a
  have h2:=Int.emod_nonneg U (show a≠0 by omega)
  have h3:=Int.emod_lt_of_pos U (show 0<a by omega)
  rw [Int.mul_comm] at h
  simp only [wrapU]
  generalize U / a*a=z at *
  omega
 have m0:IntKind.u64.wrap (R1 - IntKind.u64.wrap (R1 / a*a))=R1 % a:=by
  have h:=Int.mul_ediv_add_emod R1 a
  have h2:=Int.emod_nonneg R1 (show a≠0 by omega)
  have h3:=Int.emod_lt_of_pos R1 (show 0<a by omega)
  rw [Int.mul_comm] at h
  simp only [wrapU]
  generalize R1 / a*a=z at *
  omega
 have g:=div64_walk hi lo y p r U L Y a b d1 d0 Q1 R1 Q0 R0 _ _ _ _ _ _ _ _ _ _ s t h0 h1 l0 l1 y1 w hs hs1 (by omega) (by omega) hp hr
  (by rw [wrapU,hY];omega) (by rw [wrapU];omega) eU (by rw [wrapU,hL]) ha (by rw [and_mask Y (by omega) hY1];exact hb) hd1 (by rw [and_mask L hL0.1 hL0.2];exact hd0)
  ba.1 ba.2.1 ba.2.2.1 ba.2.2.2 hU0 (by omega) bd.1 bd.2.1 bd.2.2.1 bd.2.2.2 bR1.1 (by omega) t1.1 t1.2 t0.1 t0.2 rfl m1 rfl rfl rfl w1 rfl m0 rfl rfl rfl w0
  k1 k0 (by have:=Int.emod_lt_of_pos U (show 0<a by omega);omega) (by have:=Int.emod_lt_of_pos R1 (show 0<a by omega);omega)
 rw [htwo.1,htwo.2] at hun
 rw [hun.1,hun.2] at g
 exact g
theorem div64_any (hi lo y:Int) (h0:0≤hi) (h1:hi<y) (l0:0≤lo) (l1:lo<18446744073709551616) (y1:y<18446744073709551616) (w:World) :
 Gives Tryz.prog 256 #[.int .u64 hi,.int .u64 lo,.int .u64 y] w (.tuple #[.int .u64 ((hi*18446744073709551616+lo) / y),.int .u64 ((hi*18446744073709551616+lo) % y)]):=by
 by_cases hz:hi=0
 · subst hz
   have:=div64_small lo y h1 l0 l1 y1 w
   rwa [show (0:Int)*18446744073709551616+lo=lo by omega]
 · exact div64_big hi lo y (by omega) h1 l0 l1 y1 w
end Go.Proofs.YteafglginnonnaaGreat
