/- What the wide products of package span are: absolute values, their product in two words, its sign, comparisons. No conditions but the words' ranges. -/
import Derived.Test.YteafglginnonnaaGreatModk
import Derived.Lib.Mul64
import Derived.Laws.Bits64b
set_option linter.unusedVariables false
set_option linter.unusedSimpArgs false
namespace Go.Proofs.YteafglginnonnaaGreat
open Go.RowKit
namespace M64
theorem maskN (a:Nat) (ha:a<18446744073709551616):bits .and .u64 (a:Int) 4294967295=((a % 4294967296:Nat):Int):=by
 have h:=bits_and_u64_nat a 4294967295 ha (by omega)
 have e:a &&& 4294967295=a % 4294967296:=Nat.and_two_pow_sub_one_eq_mod a 32
 rw [e] at h
 exact h
theorem divN (a:Nat):(a:Int) / 4294967296=((a / 4294967296:Nat):Int):=by omega
theorem mulN (a b:Nat):(a:Int)*(b:Int)=((a*b:Nat):Int):=(Int.natCast_mul a b).symm
theorem addN (a b:Nat):(a:Int)+(b:Int)=((a+b:Nat):Int):=(Int.natCast_add a b).symm
theorem wrapN (a:Nat) (ha:a<18446744073709551616):IntKind.u64.wrap (a:Int)=(a:Int):=by rw [IntKind.wrap_u64];omega
theorem wrapM (a:Nat):IntKind.u64.wrap (a:Int)=((a % 18446744073709551616:Nat):Int):=by rw [IntKind.wrap_u64];omega
end M64
set_option maxHeartbeats 1000000 in
theorem mul64_nat (x y:Nat) (hx:x<18446744073709551616) (hy:y<18446744073709551616) (w:World) :
 Gives Tryz.prog 254 #[.int .u64 x,.int .u64 y] w (.tuple #[.int .u64 ((x*y / 18446744073709551616:Nat):Int),.int .u64 ((x*y % 18446744073709551616:Nat):Int)]):=by
 obtain ⟨bd,bt,bw,hhi⟩:=Lib.mul64_hi x y hx hy
 have ba:=Lib.half_mul_le (a:=x / 4294967296) (b:=y / 4294967296) (by omega) (by omega)
 have bb:=Lib.half_mul_le (a:=x / 4294967296) (b:=y % 4294967296) (by omega) (by omega)
 have bc:=Lib.half_mul_le (a:=x % 4294967296) (b:=y / 4294967296) (by omega) (by omega)
 have ba':x / 4294967296*(y / 4294967296)<18446744073709551616:=by omega
 have bb':x / 4294967296*(y % 4294967296)<18446744073709551616:=by omega
 have bc':x % 4294967296*(y / 4294967296)<18446744073709551616:=by omega
 have bh1:x / 4294967296*(y / 4294967296)+(x / 4294967296*(y % 4294967296)+x % 4294967296*(y % 4294967296) / 4294967296) / 4294967296<18446744073709551616:=by omega
 have bh:x / 4294967296*(y / 4294967296)+(x / 4294967296*(y % 4294967296)+x % 4294967296*(y % 4294967296) / 4294967296) / 4294967296+((x / 4294967296*(y % 4294967296)+x % 4294967296*(y % 4294967296) / 4294967296) % 4294967296+x % 4294967296*(y / 4294967296)) / 4294967296<18446744073709551616:=by omega
 (unfold Gives;go_enter Tryz.func254,Tryz.ntmps254)
 go_wp2
 simp only [M64.maskN x hx,M64.maskN y hy,M64.divN,M64.mulN,M64.addN,M64.wrapN _ bd,M64.wrapN _ bb',M64.wrapN _ bt,M64.maskN _ bt,M64.wrapN _ bc',M64.wrapN _ bw,M64.wrapN _ ba',M64.wrapN _ bh1,M64.wrapN _ bh,M64.wrapM (x*y)]
 rw [hhi]
 go_ret2
 exact ⟨rfl,Up.refl _⟩
theorem mul64_any (x y:Int) (hx0:0≤x) (hx:x<18446744073709551616) (hy0:0≤y) (hy:y<18446744073709551616) (w:World) :
 Gives Tryz.prog 254 #[.int .u64 x,.int .u64 y] w (.tuple #[.int .u64 (x*y / 18446744073709551616),.int .u64 (x*y % 18446744073709551616)]):=by
 obtain ⟨a,rfl⟩:=Int.eq_ofNat_of_zero_le hx0
 obtain ⟨b,rfl⟩:=Int.eq_ofNat_of_zero_le hy0
 have h:=mul64_nat a b (by omega) (by omega) w
 rw [show ((a*b / 18446744073709551616:Nat):Int)=(a:Int)*b / 18446744073709551616 by rw [Int.natCast_ediv,Int.natCast_mul];rfl,
  show ((a*b % 18446744073709551616:Nat):Int)=(a:Int)*b % 18446744073709551616 by rw [Int.natCast_emod,Int.natCast_mul];rfl] at h
 exact h
theorem times_any (x y:Int) (hx0:0≤x) (hx:x<18446744073709551616) (hy0:0≤y) (hy:y<18446744073709551616) (w:World) :
 Gives Tryz.prog 268 #[.int .u64 x,.int .u64 y] w (.agg #[.int .u64 (x*y / 18446744073709551616),.int .u64 (x*y % 18446744073709551616)]):=by
 (unfold Gives;go_enter Tryz.func268,Tryz.ntmps268)
 go_wp2_with (go_at_call 254;refine (mul64_any _ _ hx0 hx hy0 hy _).mono ?_;intro _)
 all_goals (refine bodyPost_give Up.go rfl ⟨_,(by simp [results,Tryz.results268,go_sem];rfl),?_⟩)
 all_goals rfl
theorem size_any (n:Int) (h0:-9223372036854775808≤n) (h1:n≤9223372036854775807) (w:World):Gives Tryz.prog 269 #[.int .i64 n] w (.int .u64 (n.natAbs:Int)):=by
 (unfold Gives;go_enter Tryz.func269,Tryz.ntmps269)
 go_wp2
 all_goals (go_ret;refine ⟨ret_int ?_,Up.go⟩)
 · rw [IntKind.wrap_u64,IntKind.wrap_u64];omega
 · omega
theorem product_any (a b:Int) (ha0:-9223372036854775808≤a) (ha1:a≤9223372036854775807) (hb0:-9223372036854775808≤b) (hb1:b≤9223372036854775807) (w:World) :
 Gives Tryz.prog 260 #[.int .i64 a,.int .i64 b] w
  (.agg #[.int .u64 ((a.natAbs:Int)*b.natAbs / 18446744073709551616),.int .u64 ((a.natAbs:Int)*b.natAbs % 18446744073709551616),.bool (decide (a<0) != decide (b<0))]):=by
 (unfold Gives;go_enter Tryz.func260,Tryz.ntmps260)
 go_wp2_with (first|(go_at_call 269;refine (size_any _ (by omega) (by omega) _).mono ?_;intro _)|(go_at_call 268;refine (times_any _ _ (by omega) (by omega) (by omega) (by omega) _).mono ?_;intro _))
 all_goals (refine bodyPost_give Up.go rfl ⟨_,(by simp [results,Tryz.results260,go_sem];rfl),?_⟩)
 all_goals rfl
end Go.Proofs.YteafglginnonnaaGreat
