/- Several texts in one. -/
import Derived.Test.YteafglginnonnaaGreatRoot
import Derived.Deep.DeepCutAuto
import Derived.Laws.Bits64b
import Derived.Test.YteafglginnonnaaGreatSkyP
/- Places: are their numbers in range, lengths, crosses and dots. -/
set_option linter.unusedVariables false
set_option linter.unusedSimpArgs false
namespace Go.Proofs.YteafglginnonnaaGreat
open Go.RowKit
def farB (n:Int):Bool:=withinB n (-268435456) 268435456
theorem far_list (s:Nat) (l:List Int) (w:World) (hs:s<w.heap.size) (hn:l.length≤16) (hc:∀ k,(h:k<l.length)→w.cell? ⟨s,k,none⟩=some (.int .i64 l[k])) :
 Gives Tryz.prog 229 #[.slice (some ⟨s,0,none⟩) l.length l.length] w (.bool (l.all farB)):=by
 have HC:=hide hc
 clear hc
 (unfold Gives;go_enter Tryz.func229,Tryz.ntmps229)
 go_wp2
 go_loopw [7] (fun i wr=>∃ k:Nat,k≤l.length∧i=.int .i64 k∧Up w wr∧Hid ((l.take k).all farB=true)) (fun i _=>l.length - (intOf i).toNat)
 case atStart=>exact ⟨0,by omega,rfl,Up.refl _,by simp [hide]⟩
 case round =>
  obtain ⟨k,hk,rfl,⟨p,rfl⟩,ht⟩:=hrel
  by_cases hlt:k<l.length
  · have hkb:decide ((k:Int)<l.length)=true:=by simp;omega
    have hcell:=HC.out k hlt
    go_wp2_with (go_at_call 219;refine (within_any _ _ _ _).mono ?_;intro _)
    · have hf:farB l[k]=false:=by simpa [farB] using (by assumption:(!withinB l[k] (-268435456) 268435456)=true)
      go_ret
      refine ⟨ret_bool ?_,Up.go⟩
      refine (Bool.eq_false_iff.2 ?_).symm
      intro h
      rw [List.all_eq_true] at h
      rw [h _ (List.getElem_mem hlt)] at hf
      cases hf
    · have hf:farB l[k]=true:=by simpa [farB] using (by assumption:(!withinB l[k] (-268435456) 268435456)=false)
      refine ⟨⟨k+1,by omega,by go_num,Up.go,?_⟩,by simp [intOf];omega⟩
      refine hide ?_
      rw [← List.take_append_getElem hlt,List.all_append,ht.out]
      simp [hf]
  · have hkb:decide ((k:Int)<l.length)=false:=by simp;omega
    go_wp2
    go_ret
    refine ⟨ret_bool ?_,Up.go⟩
    have:=ht.out
    rw [List.take_of_length_le (by omega)] at this
    exact this.symm
def farA (a b c d:Int):Bool:=farB a&&(farB b&&(farB c&&farB d))
theorem far4 {s:Nat} (t:TypeId) (a b c d:Int) (w:World) (hs:s=w.heap.size) :
 Gives Tryz.prog 229 #[.slice (some ⟨s,0,none⟩) 4 4] (w.alloc (.cells #[.int .i64 a,.int .i64 b,.int .i64 c,.int .i64 d] t)) (.bool (farA a b c d)):=by
 have hb:Box (w.alloc (.cells #[.int .i64 a,.int .i64 b,.int .i64 c,.int .i64 d] t)) s #[.int .i64 a,.int .i64 b,.int .i64 c,.int .i64 d] t:=Box.mk hs.symm
 have h:=far_list s [a,b,c,d] _ hb.lt (by simp) (fun k hk=>by
  have:k=0∨k=1∨k=2∨k=3:=by simp at hk;omega
  rcases this with rfl | rfl | rfl | rfl
  · exact hb.cell 0 rfl
  · exact hb.cell 1 rfl
  · exact hb.cell 2 rfl
  · exact hb.cell 3 rfl)
 simpa [farA] using h
def areaE (a b c d:Int):Int:=if validE a b c d=0 then (if farA a b c d=true then 0 else 2) else validE a b c d
theorem checkarea_any (a b c d:Int) (w:World):Gives Tryz.prog 212 #[.agg #[.int .i64 a,.int .i64 b,.int .i64 c,.int .i64 d]] w (.int .i64 (areaE a b c d)):=by
 (unfold Gives;go_enter Tryz.func212,Tryz.ntmps212)
 go_wp2_with (first|(go_at_call 140;refine (valid_any _ _ _ _ _).mono ?_;intro _)|(go_at_call 229;refine (far4 _ _ _ _ _ _ (by simp)).mono ?_;intro _))
 all_goals (go_ret;refine ⟨ret_int ?_,Up.go⟩)
 all_goals (go_light;first|(simp_all [areaE];done)|(simp_all [areaE];omega)|(simp_all [areaE];repeat' split;all_goals (first|(simp_all;done)|omega|(simp_all;omega))))
theorem mul_self_nonneg (x:Int):0≤x*x:=by
 rcases Int.le_total 0 x with h | h
 · exact Int.mul_nonneg h h
 · exact Int.mul_nonneg_of_nonpos_of_nonpos h h
theorem mul_bd {x y B C:Int} (x0:-B≤x) (x1:x≤B) (y0:-C≤y) (y1:y≤C):-(B*C)≤x*y∧x*y≤B*C:=by
 constructor
 · rcases Int.le_total 0 x with h | h
   · have h1:=Int.mul_le_mul_of_nonneg_left y0 h
     have h2:=Int.mul_le_mul_of_nonneg_right x1 (show 0≤C by omega)
     rw [Int.mul_neg] at h1;omega
   · have h1:=Int.mul_le_mul_of_nonpos_left h y1
     have h2:=Int.mul_le_mul_of_nonneg_right x0 (show 0≤C by omega)
     rw [Int.neg_mul] at h2;omega
 · rcases Int.le_total 0 x with h | h
   · have h1:=Int.mul_le_mul_of_nonneg_left y1 h
     have h2:=Int.mul_le_mul_of_nonneg_right x1 (show 0≤C by omega)
     omega
   · have h1:=Int.mul_le_mul_of_nonpos_left h y0
     have h2:=Int.mul_le_mul_of_nonneg_right x0 (show 0≤C by omega)
     rw [Int.neg_mul] at h2;rw [Int.mul_neg] at h1;omega
theorem RootAt.lt {n o B:Int} (h:RootAt n o B) (h1:n<18446744073709551616):0≤B∧o+2*B≤4294967296:=by
 obtain ⟨h2,h3,h4⟩:=h
 rcases h4 with ⟨rfl,h4⟩ | ⟨j,hj,rfl,hc,h5,h6⟩
 · have:=lt_of_sq (a:=o) (b:=4294967296) (by omega) (by omega)
   omega
 · have:=Int.pow_pos (n:=2) (m:=j) (by omega)
   omega
theorem RootAt.bit {n o B:Int} (h:RootAt n o B) (h1:n<18446744073709551616) (hB:0<B):bits BinOp.or IntKind.u64 o B=o+B:=by
 obtain ⟨l0,l1⟩:=h.lt h1
 obtain ⟨h2,h3,h4⟩:=h
 rcases h4 with ⟨rfl,h4⟩ | ⟨j,hj,rfl,⟨c,hc⟩,h5,h6⟩
 · omega
 · have hp:((2:Int)^j)=((2^j:Nat):Int):=by rw [Int.natCast_pow];rfl
   have hb:2^j<18446744073709551616:=Nat.lt_of_lt_of_eq (@Nat.pow_lt_pow_right 2 j 64 (by omega) (by omega)) (by decide)
   have hz:c*2^(j+1)<18446744073709551616:=by
    have h7:0<(2:Int)^j:=Int.pow_pos (by omega)
    generalize c*2^(j+1)=z at *
    omega
   rw [hp,hc,bits_or_u64_nat _ _ hz hb,← Int.natCast_add]
   congr 1
   rw [Nat.mul_comm]
   exact (Nat.two_pow_add_eq_or_of_lt (Nat.pow_lt_pow_right (by omega) (by omega)) c).symm
theorem RootAt.done {n o:Int} (h:RootAt n o 0) (n0:0≤n) (n1:n<18446744073709551616):o=isq n:=by
 refine isq_eq n0 n1 h.nonneg h.sq ?_
 rcases h.rest with ⟨_,h4⟩ | ⟨j,_,h5,_⟩
 · exact h4
 · have:=Int.pow_pos (n:=2) (m:=j) (by omega)
   omega
theorem root_any (n:Int) (n0:0≤n) (n1:n<18446744073709551616) (w:World):Gives Tryz.prog 267 #[.int .u64 n] w (.int .u64 (isq n)):=by
 (unfold Gives;go_enter Tryz.func267,Tryz.ntmps267)
 go_wp2
 go_loop [3,4] (fun s3 s4=>∃ o B:Int,s3=.int .u64 o∧s4=.int .u64 B∧Hid (RootAt n o B)∧0≤o∧0≤B∧o+2*B≤4294967296) (fun _ s4=>(intOf s4).toNat)
 case atStart=>exact ⟨0,2147483648,rfl,rfl,hide (RootAt.start n n0 n1),by omega,by omega,by omega⟩
 case round =>
  obtain ⟨o,B,rfl,rfl,hR,o0,b0,ob⟩:=hrel
  by_cases hB:0<B
  · have hor:=hR.out.bit n1 hB
    obtain ⟨X,hX⟩:∃ X,o+B=X:=⟨_,rfl⟩
    have hst:=hR.out.step hB
    rw [hX] at hor hst
    have hXX:=mul_bd (x:=X) (y:=X) (B:=4294967295) (C:=4294967295) (by omega) (by omega) (by omega) (by omega)
    have hX0:=mul_self_nonneg X
    have HS:=hide hst
    clear hst
    go_wp2
    · have hle:X*X≤n:=by assumption
      have hs:=HS.out X (.inl ⟨rfl,hle⟩)
      exact ⟨⟨X,B / 2,rfl,rfl,hide hs,hs.nonneg,(hs.lt n1).1,(hs.lt n1).2⟩,by simp [intOf];omega⟩
    · have hlt:n<X*X:=by assumption
      have hs:=HS.out o (.inr ⟨rfl,hlt⟩)
      exact ⟨⟨o,B / 2,rfl,rfl,hide hs,hs.nonneg,(hs.lt n1).1,(hs.lt n1).2⟩,by simp [intOf];omega⟩
  · obtain rfl:B=0:=by omega
    have hd:=hide (hR.out.done n0 n1)
    go_wp2
    go_ret
    exact ⟨ret_int hd.out,Up.refl _⟩
def rootV (n:Int):Int:=if n<0 then -1 else isq n
theorem Root_any (n:Int) (n0:-9223372036854775808≤n) (n1:n≤9223372036854775807) (w:World):Gives Tryz.prog 258 #[.int .i64 n] w (.int .i64 (rootV n)):=by
 by_cases h:n<0
 · rw [show rootV n = -1 by unfold rootV;rw [if_pos h]]
   (unfold Gives;go_enter Tryz.func258,Tryz.ntmps258)
   go_wp2
   go_ret
   exact ⟨rfl,Up.go⟩
 · rw [show rootV n=isq n by unfold rootV;rw [if_neg h]]
   obtain ⟨i0,i1,i2⟩:=isq_spec n (by omega) (by omega)
   have i3:=lt_of_sq (a:=isq n) (b:=3037000500) (by omega) (by omega)
   have H:=hide (fun W=>root_any n (by omega) (by omega) W)
   generalize isq n=r at *
   clear i1 i2
   (unfold Gives;go_enter Tryz.func258,Tryz.ntmps258)
   go_wp2_with (go_at_call 267;(with_reducible refine (H.out _).mono ?_);intro _)
   go_ret
   exact ⟨rfl,Up.go⟩
def rootsS (a b:Int):Int×Int×Int:=if checkE a b=0 then (if a<0 then (0,0,2) else (isq a,(if isq b*isq b<b then isq b+1 else isq b),0)) else (0,0,checkE a b)
theorem roots_any (a b:Int) (w:World):Gives Tryz.prog 247 #[.agg #[.int .i64 a,.int .i64 b]] w
 (.tuple #[.agg #[.int .i64 (rootsS a b).1,.int .i64 (rootsS a b).2.1],.int .i64 (rootsS a b).2.2]):=by
 by_cases hv:checkE a b=0
 · obtain ⟨a0,a1,a2⟩:=check_zero hv
   have hvb:(checkE a b != 0)=false:=by simp [hv]
   by_cases hn:a<0
   · rw [show rootsS a b=(0,0,2) by unfold rootsS;rw [if_pos hv,if_pos hn]]
     clear hv
     (unfold Gives;go_enter Tryz.func247,Tryz.ntmps247)
     go_wp2_with (go_at_call 175;(with_reducible refine (check_any _ _ _).mono ?_);intro _)
     all_goals (refine bodyPost_give Up.go rfl ⟨_,(by simp [results,Tryz.results247,go_sem];rfl),?_⟩)
     all_goals rfl
   · rw [show rootsS a b=(isq a,(if isq b*isq b<b then isq b+1 else isq b),0) by unfold rootsS;rw [if_pos hv,if_neg hn]]
     obtain ⟨i0,i1,i2⟩:=isq_spec b (by omega) (by omega)
     have i3:=lt_of_sq (a:=isq b) (b:=1073741825) (by omega) (by omega)
     have H1:=hide (fun W=>Root_any a (by omega) (by omega) W)
     have H2:=hide (fun W=>Root_any b (by omega) (by omega) W)
     rw [show rootV a=isq a by unfold rootV;rw [if_neg (by omega)]] at H1
     rw [show rootV b=isq b by unfold rootV;rw [if_neg (by omega)]] at H2
     generalize isq b=r at *
     generalize isq a=q at *
     clear i2 hv
     have i4:=mul_bd (x:=r) (y:=r) (B:=1073741824) (C:=1073741824) (by omega) (by omega) (by omega) (by omega)
     have hn':0≤a:=by omega
     (unfold Gives;go_enter Tryz.func247,Tryz.ntmps247)
     go_wp2_with (first|(go_at_call 175;(with_reducible refine (check_any _ _ _).mono ?_);intro _)|(go_at_call 258;(with_reducible refine (H1.out _).mono ?_);intro _)|(go_at_call 258;(with_reducible refine (H2.out _).mono ?_);intro _))
     all_goals (refine bodyPost_give Up.go rfl ⟨_,(by simp [results,Tryz.results247,go_sem];rfl),?_⟩)
     all_goals (first|rfl|(exfalso;omega))
 · have hvb:(checkE a b != 0)=true:=by simp [hv]
   rw [show rootsS a b=(0,0,checkE a b) by unfold rootsS;rw [if_neg hv]]
   clear hv
   (unfold Gives;go_enter Tryz.func247,Tryz.ntmps247)
   go_wp2_with (go_at_call 175;(with_reducible refine (check_any _ _ _).mono ?_);intro _)
   all_goals (refine bodyPost_give Up.go rfl ⟨_,(by simp [results,Tryz.results247,go_sem];rfl),?_⟩)
   all_goals rfl
abbrev Sp:=Int×Int
abbrev Ar:=Int×Int×Int×Int
def addP (a b:Sp):Sp:=((addS a.1 a.2 b.1 b.2).1,(addS a.1 a.2 b.1 b.2).2.1)
def subP (a b:Sp):Sp:=((subS a.1 a.2 b.1 b.2).1,(subS a.1 a.2 b.1 b.2).2.1)
def mulP (a b:Sp):Sp:=((mulS a.1 a.2 b.1 b.2).1,(mulS a.1 a.2 b.1 b.2).2.1)
def quotP (a b:Sp):Sp:=((quotS a.1 a.2 b.1 b.2).1,(quotS a.1 a.2 b.1 b.2).2.1)
def squareP (a:Sp):Sp:=((squareS a.1 a.2).1,(squareS a.1 a.2).2.1)
def rootsP (a:Sp):Sp:=((rootsS a.1 a.2).1,(rootsS a.1 a.2).2.1)
def arX (a:Ar):Sp:=(a.1,a.2.1)
def arY (a:Ar):Sp:=(a.2.2.1,a.2.2.2)
def mkA (x y:Sp):Ar:=(x.1,x.2,y.1,y.2)
def boundedE (a b lo hi:Int):Int:=if b<a then 11 else if a<lo∨hi<b then 2 else 0
def driftE (l h:Sp) (g:Int):Int :=
 if boundedE l.1 l.2 0 1000=0 then (if boundedE h.1 h.2 (-1000) 1000=0 then (if withinB g 0 1000=true then 0 else 2) else boundedE h.1 h.2 (-1000) 1000) else boundedE l.1 l.2 0 1000
def limB (a b:Int):Bool:=decide (-33554432≤a∧b≤33554432)
def askedE (bs:List Bod) (home:Int) (l h:Sp) (g tick:Int) (a:Ar):Int :=
 if worldE bs home=0 then
  (if driftE l h g=0 then
   (if withinB tick 0 1073741824=true then
    (if areaE a.1 a.2.1 a.2.2.1 a.2.2.2=0 then (if limB a.1 a.2.1=true∧limB a.2.2.1 a.2.2.2=true then 0 else 2) else areaE a.1 a.2.1 a.2.2.1 a.2.2.2)
   else 2)
  else driftE l h g)
 else worldE bs home
def edgeV (r:Int):Int:=max 1 (r*r)
def toP (p:Sp) (a:Ar):Ar:=mkA (subP (p.1,p.1) (arX a)) (subP (p.2,p.2) (arY a))
def sqP (r:Int) (v:Ar):Sp:=(max (addP (squareP (arX v)) (squareP (arY v))).1 (edgeV r),max (addP (squareP (arX v)) (squareP (arY v))).2 (edgeV r))
def distP (r:Int) (v:Ar):Sp:=rootsP (sqP r v)
def mdP (mu n d:Int):Sp:=if (mulDivE mu n d).2.2=0 then ((mulDivE mu n d).1,(mulDivE mu n d).2.1) else if n<0 then (-1152921504606846976,-1152921504606846976) else (1152921504606846976,1152921504606846976)
def hullP (a b:Sp):Sp:=(min a.1 b.1,max a.2 b.2)
def scaledP (mu:Int) (x q:Sp):Sp:=hullP (hullP (hullP (mdP mu x.1 q.1) (mdP mu x.2 q.1)) (mdP mu x.1 q.2)) (mdP mu x.2 q.2)
def clampP (s:Sp):Sp:=(min (max s.1 (-1048576)) 1048576,min (max s.2 (-1048576)) 1048576)
def towardP (mu:Int) (x q r:Sp):Sp:=clampP (quotP (scaledP mu x q) r)
def pullP (mu r:Int) (p:Sp) (a:Ar):Ar :=
 mkA (towardP mu (arX (toP p a)) (sqP r (toP p a)) (distP r (toP p a))) (towardP mu (arY (toP p a)) (sqP r (toP p a)) (distP r (toP p a)))
def pullB (tick:Int) (a:Ar) (b:Bod):Ar:=pullP b.mu b.radius (placeV b tick) a
def partP (a b:Sp):Sp:=quotP (mulP a b) (1000,1000)
def minusP (s:Sp):Sp:=(-s.2,-s.1)
def lightP (l:Sp) (p:Ar):Ar:=mkA (minusP (partP l (arX p))) (minusP (partP l (arY p)))
def heatP (h:Sp) (p:Ar):Ar:=mkA (minusP (partP h (arY p))) (partP h (arX p))
def sumP (a b:Ar):Ar:=mkA (addP (arX a) (arX b)) (addP (arY a) (arY b))
def gasP (g:Int):Ar:=(-g,g,-g,g)
def overR (bs:List Bod) (l h:Sp) (g tick:Int) (a:Ar):Ar :=
 (bs.map (pullB tick a)).foldl sumP (sumP (sumP (gasP g) (lightP l ((bs.map (pullB tick a)).headD (0,0,0,0)))) (heatP h ((bs.map (pullB tick a)).headD (0,0,0,0))))
def sum0 (l:List Ar):Ar:=l.foldl sumP (0,0,0,0)
/-! ### plain facts -/
theorem addP_of {a b:Sp} (h1:checkE a.1 a.2=0) (h2:checkE b.1 b.2=0) (h3:-1152921504606846976≤a.1+b.1) (h4:a.2+b.2≤1152921504606846976):addP a b=(a.1+b.1,a.2+b.2):=by
 obtain ⟨a0,a1,a2⟩:=check_zero h1
 obtain ⟨b0,b1,b2⟩:=check_zero h2
 unfold addP addS
 rw [if_pos (by unfold validE;rw [if_pos h1];exact h2)]
 unfold endsS
 rw [if_pos ⟨(fits_iff _).2 (by omega),(fits_iff _).2 (by omega)⟩]
theorem addP_zero {s:Sp} (h:checkE s.1 s.2=0):addP (0,0) s=s:=by
 obtain ⟨a0,a1,a2⟩:=check_zero h
 rw [addP_of (check_ok (by omega) (by omega) (by omega)) h (by simp;omega) (by simp;omega)]
 simp
theorem ends_check (lo hi:Int) (h:lo≤hi):checkE (endsS lo hi).1 (endsS lo hi).2.1=0:=by
 unfold endsS
 split
 · rename_i hf
   exact check_ok ((fits_iff _).1 hf.1).1 h ((fits_iff _).1 hf.2).2
 · show checkE 0 0=0;decide
theorem sq_mono {a b:Int} (h0:0≤a) (h1:a≤b):a*a≤b*b:=Int.mul_le_mul h1 h1 h0 (by omega)
theorem squareP_check (s:Sp):checkE (squareP s).1 (squareP s).2=0:=by
 unfold squareP squareS
 split
 · rename_i h
   obtain ⟨a0,a1,a2⟩:=check_zero h
   split
   · show checkE 0 0=0;decide
   · exact ends_check _ _ (sq_mono (by omega) (by omega))
 · show checkE 0 0=0;decide
theorem subP_of {a b:Sp} (h1:checkE a.1 a.2=0) (h2:checkE b.1 b.2=0) (h3:-1152921504606846976≤a.1 - b.2) (h4:a.2 - b.1≤1152921504606846976):subP a b=(a.1 - b.2,a.2 - b.1):=by
 obtain ⟨a0,a1,a2⟩:=check_zero h1
 obtain ⟨b0,b1,b2⟩:=check_zero h2
 unfold subP subS
 rw [if_pos (by unfold validE;rw [if_pos h1];exact h2)]
 unfold endsS
 rw [if_pos ⟨(fits_iff _).2 (by omega),(fits_iff _).2 (by omega)⟩]
theorem valid_ok {a b c d:Int} (h1:checkE a b=0) (h2:checkE c d=0):validE a b c d=0:=by unfold validE;rw [if_pos h1,h2]
theorem lin_bd {x c d y:Int} (h0:c≤y) (h1:y≤d):(x*c≤x*y∧x*y≤x*d)∨(x*d≤x*y∧x*y≤x*c):=by
 rcases Int.le_total 0 x with h | h
 · left;exact ⟨Int.mul_le_mul_of_nonneg_left h0 h,Int.mul_le_mul_of_nonneg_left h1 h⟩
 · right;exact ⟨Int.mul_le_mul_of_nonpos_left h h1,Int.mul_le_mul_of_nonpos_left h h0⟩
theorem lin_bd' {a b x c:Int} (h0:a≤x) (h1:x≤b):(a*c≤x*c∧x*c≤b*c)∨(b*c≤x*c∧x*c≤a*c):=by
 have:=lin_bd (x:=c) h0 h1
 rw [Int.mul_comm c a,Int.mul_comm c b,Int.mul_comm c x] at this
 exact this
theorem mul_between {a b c d x y:Int} (h0:a≤x) (h1:x≤b) (h2:c≤y) (h3:y≤d) :
 min (min (min (a*c) (a*d)) (b*c)) (b*d)≤x*y∧x*y≤max (max (max (a*c) (a*d)) (b*c)) (b*d):=by
 have e1:=lin_bd (x:=x) h2 h3
 have e2:=lin_bd' (c:=c) h0 h1
 have e3:=lin_bd' (c:=d) h0 h1
 omega
theorem flo_iff (n p c:Int) (hc:c≠0):n≤floQ p c↔(0<c∧n*c≤p)∨(c<0∧p≤n*c):=by
 unfold floQ
 split
 · rename_i h
   rw [Int.le_ediv_iff_mul_le (by omega),Int.mul_neg]
   omega
 · rename_i h
   rw [Int.le_ediv_iff_mul_le (by omega)]
   omega
theorem cei_flo {p c:Int} (hc:c≠0):floQ p c≤ceiQ p c:=by
 unfold ceiQ
 have h1:=(flo_iff (floQ p c) p c hc).1 (Int.le_refl _)
 have h2:=(flo_iff (floQ (-p) c) (-p) c hc).1 (Int.le_refl _)
 by_cases h:floQ p c ≤ -floQ (-p) c
 · exact h
 · have h3:1≤floQ p c+floQ (-p) c:=by omega
   have e:(floQ p c+floQ (-p) c)*c=floQ p c*c+floQ (-p) c*c:=Int.add_mul _ _ _
   rcases Int.lt_or_gt_of_ne hc with hc0 | hc0
   · have:=Int.mul_le_mul_of_nonpos_right h3 (show c≤0 by omega)
     omega
   · have:=Int.mul_le_mul_of_nonneg_right h3 (show 0≤c by omega)
     omega
theorem flo_between {a b c d x y n:Int} (h0:a≤x) (h1:x≤b) (h2:c≤y) (h3:y≤d) (hz:¬ (c≤0∧0≤d))
 (n1:n≤floQ a c) (n2:n≤floQ a d) (n3:n≤floQ b c) (n4:n≤floQ b d):n≤floQ x y:=by
 rw [flo_iff _ _ _ (by omega)] at n1 n2 n3 n4 ⊢
 have e:=lin_bd (x:=n) h2 h3
 omega
theorem isq_mono {x y:Int} (x0:0≤x) (h:x≤y) (y1:y<18446744073709551616):isq x≤isq y:=by
 obtain ⟨a0,a1,a2⟩:=isq_spec x x0 (by omega)
 obtain ⟨b0,b1,b2⟩:=isq_spec y (by omega) y1
 refine Int.not_lt.1 fun hc=>?_
 have:=Int.mul_le_mul (show isq y+1≤isq x by omega) (show isq y+1≤isq x by omega) (by omega) a0
 omega
def upq (x:Int):Int:=if isq x*isq x<x then isq x+1 else isq x
theorem upq_spec {x:Int} (x0:0≤x) (x1:x<18446744073709551616):0≤upq x∧isq x≤upq x∧x≤upq x*upq x∧(upq x=0∨(upq x - 1)*(upq x - 1)<x):=by
 obtain ⟨a0,a1,a2⟩:=isq_spec x x0 x1
 unfold upq
 split
 · rename_i h
   refine ⟨by omega,by omega,by omega,.inr ?_⟩
   rw [show isq x+1 - 1=isq x by omega];exact h
 · rename_i h
   refine ⟨a0,Int.le_refl _,by omega,?_⟩
   by_cases hz:isq x=0
   · exact .inl hz
   · right
     have:(isq x - 1)*(isq x - 1)=isq x*isq x - 2*isq x+1:=by grind
     omega
theorem upq_mono {x y:Int} (x0:0≤x) (h:x≤y) (y1:y<18446744073709551616):upq x≤upq y:=by
 obtain ⟨a0,a1,a2,a3⟩:=upq_spec x0 (by omega)
 obtain ⟨b0,b1,b2,b3⟩:=upq_spec (x:=y) (by omega) y1
 refine Int.not_lt.1 fun hc=>?_
 rcases a3 with a3 | a3
 · omega
 · have:=Int.mul_le_mul (show upq y≤upq x - 1 by omega) (show upq y≤upq x - 1 by omega) b0 (by omega)
   omega
def cl (m z:Int):Int:=min (max z (-m)) m
theorem cl_mono {m a b:Int} (h:a≤b):cl m a≤cl m b:=by unfold cl;omega
theorem cl_neg {m a:Int} (m0:0≤m):cl m (-a) = -cl m a:=by unfold cl;omega
theorem cl_bd {m a:Int} (m0:0≤m):-m≤cl m a∧cl m a≤m:=by unfold cl;omega
theorem cl_id {m a:Int} (h0:-m≤a) (h1:a≤m):cl m a=a:=by unfold cl;omega
theorem cl_min {m a b:Int}:cl m (min a b)=min (cl m a) (cl m b):=by unfold cl;omega
theorem flo_le {p c:Int} (hc:0<c) (n:Int):n≤floQ p c↔n*c≤p:=by
 rw [flo_iff _ _ _ (by omega)]
 omega
theorem flo_mono {p p' c:Int} (hc:0<c) (h:p≤p'):floQ p c≤floQ p' c:=(flo_le hc _).2 (Int.le_trans ((flo_le hc _).1 (Int.le_refl _)) h)
theorem flo_nonneg {p c:Int} (hc:0<c) (h:0≤p):0≤floQ p c:=(flo_le hc _).2 (by omega)
theorem cei_step {p c:Int} (hc:0<c):ceiQ p c≤floQ p c+1:=by
 unfold ceiQ
 have h:-(floQ p c+1)≤floQ (-p) c:=by
  rw [flo_le hc]
  have h1:¬ (floQ p c+1≤floQ p c):=by omega
  rw [flo_le hc] at h1
  rw [Int.neg_mul]
  omega
 omega
theorem flo_in {p c m:Int} (hc:0<c) (m0:0≤m) (p0:-m≤p) (p1:p≤m):-m≤floQ p c∧floQ p c≤m:=by
 refine ⟨(flo_le hc _).2 ?_,?_⟩
 · have:=Int.mul_le_mul_of_nonneg_left (show 1≤c by omega) m0
   rw [Int.neg_mul];omega
 · rcases Int.lt_or_le m (floQ p c) with h | h
   · have h1:=(flo_le (p:=p) hc (m+1)).1 (by omega)
     have h2:=Int.mul_le_mul_of_nonneg_left (show 1≤c by omega) (show 0≤m+1 by omega)
     omega
   · exact h
theorem mdP_val {mu n d:Int} (mu0:0≤mu) (mu1:mu≤1125899906842624) (n0:-1152921504606846976≤n) (n1:n≤1152921504606846976) (d0:0<d) (d1:d≤1152921504606846976) :
 mdP mu n d=(cl 1152921504606846976 (floQ (mu*n) d),cl 1152921504606846976 (ceiQ (mu*n) d)):=by
 have hm:mulDivE mu n d=mdE (mu*n) d:=by
  unfold mulDivE
  rw [if_pos ⟨(fits_iff _).2 (by omega),(fits_iff _).2 (by omega),(fits_iff _).2 (by omega),by omega⟩]
 unfold mdP
 rw [hm]
 have h1:=cei_flo (p:=mu*n) (c:=d) (by omega)
 have h2:=cei_step (p:=mu*n) d0
 unfold mdE
 split
 · rename_i h
   rw [if_pos rfl,cl_id (by omega) (by omega),cl_id (by omega) (by omega)]
 · rename_i h
   rw [if_neg (by simp)]
   split
   · rename_i hn
     have hp:mu*n≤0:=Int.mul_nonpos_of_nonneg_of_nonpos mu0 (by omega)
     have h3:ceiQ (mu*n) d≤0:=by
      have:=flo_nonneg (p:=-(mu*n)) d0 (by omega)
      unfold ceiQ;omega
     unfold cl
     congr 1 <;> omega
   · rename_i hn
     have hp:0≤mu*n:=Int.mul_nonneg mu0 (by omega)
     have h3:=flo_nonneg d0 hp
     unfold cl
     congr 1 <;> omega
def lowN (mu:Int) (x q:Sp):Int:=min (min (min (cl 1152921504606846976 (floQ (mu*x.1) q.1)) (cl 1152921504606846976 (floQ (mu*x.2) q.1))) (cl 1152921504606846976 (floQ (mu*x.1) q.2))) (cl 1152921504606846976 (floQ (mu*x.2) q.2))
def lowT (mu:Int) (x q r:Sp):Int:=cl 1048576 (min (floQ (lowN mu x q) r.1) (floQ (lowN mu x q) r.2))
def Ord (m:Int) (x:Sp):Prop:=-m≤x.1∧x.1≤x.2∧x.2≤m
def Pos (m:Int) (x:Sp):Prop:=0<x.1∧x.1≤x.2∧x.2≤m
theorem Ord.neg {m:Int} {x:Sp} (h:Ord m x):Ord m (minusP x):=by unfold Ord minusP at *;simp only;omega
theorem Ord.mono {m m':Int} {x:Sp} (h:Ord m x) (hm:m≤m'):Ord m' x:=by unfold Ord at *;omega
theorem Ord.check {x:Sp} (h:Ord 1152921504606846976 x):checkE x.1 x.2=0:=check_ok h.1 h.2.1 h.2.2
theorem Pos.check {x:Sp} (h:Pos 1152921504606846976 x):checkE x.1 x.2=0:=check_ok (by have:=h.1;omega) h.2.1 h.2.2
def Sub (x y:Sp):Prop:=y.1≤x.1∧x.1≤x.2∧x.2≤y.2
def SubA (a b:Ar):Prop:=Sub (arX a) (arX b)∧Sub (arY a) (arY b)
theorem Sub.neg {x y:Sp} (h:Sub x y):Sub (minusP x) (minusP y):=by unfold Sub minusP at *;simp only;omega
theorem flo_clmul {mu x y a b:Int} {q r:Int} (mu0:0≤mu) (hxa:a≤x) (hxb:x≤b) (q0:0<q) {m k:Int} (hqy:q≤y) (hyr:y≤r)
 (h1:k≤cl m (floQ (mu*a) q)) (h3:k≤cl m (floQ (mu*a) r)):k≤cl m (floQ (mu*x) y):=by
 have hax:mu*a≤mu*x:=Int.mul_le_mul_of_nonneg_left hxa mu0
 have hb:min (floQ (mu*a) q) (floQ (mu*a) r)≤floQ (mu*x) y:=by
  refine flo_between (a:=mu*a) (b:=mu*x) (c:=q) (d:=r) hax (Int.le_refl _) hqy hyr (by omega) (by omega) (by omega) ?_ ?_
  · have:=flo_mono q0 hax;omega
  · have:=flo_mono (show 0<r by omega) hax;omega
 have h:=cl_mono (m:=m) hb
 rw [cl_min] at h
 omega
theorem lowN_le {mu:Int} {x q:Sp} (mu0:0≤mu) (hx:x.1≤x.2) (q0:0<q.1) (q1:q.1≤q.2) {u v:Int} (u0:x.1≤u) (v0:q.1≤v) (v1:v≤q.2) :
 lowN mu x q≤cl 1152921504606846976 (floQ (mu*u) v) :=
 flo_clmul mu0 u0 (Int.le_refl u) q0 v0 v1 (by unfold lowN;omega) (by unfold lowN;omega)
theorem lowN_mono {mu:Int} {x q X Q:Sp} (mu0:0≤mu) (hx:Sub x X) (q0:0<Q.1) (hq:Sub q Q):lowN mu X Q≤lowN mu x q:=by
 obtain ⟨x0,x1,x2⟩:=hx
 obtain ⟨h0,h1,h2⟩:=hq
 have a1:=lowN_le (x:=X) (q:=Q) (u:=x.1) (v:=q.1) mu0 (by omega) q0 (by omega) x0 h0 (by omega)
 have a2:=lowN_le (x:=X) (q:=Q) (u:=x.2) (v:=q.1) mu0 (by omega) q0 (by omega) (by omega) h0 (by omega)
 have a3:=lowN_le (x:=X) (q:=Q) (u:=x.1) (v:=q.2) mu0 (by omega) q0 (by omega) x0 (by omega) h2
 have a4:=lowN_le (x:=X) (q:=Q) (u:=x.2) (v:=q.2) mu0 (by omega) q0 (by omega) (by omega) (by omega) h2
 have e:lowN mu x q=min (min (min (cl 1152921504606846976 (floQ (mu*x.1) q.1)) (cl 1152921504606846976 (floQ (mu*x.2) q.1))) (cl 1152921504606846976 (floQ (mu*x.1) q.2))) (cl 1152921504606846976 (floQ (mu*x.2) q.2)):=rfl
 omega
theorem lowT_mono {mu:Int} {x q r X Q R:Sp} (mu0:0≤mu) (hx:Sub x X) (q0:0<Q.1) (hq:Sub q Q) (r0:0<R.1) (hr:Sub r R):lowT mu X Q R≤lowT mu x q r:=by
 have h:=lowN_mono mu0 hx q0 hq
 obtain ⟨h0,h1,h2⟩:=hr
 apply cl_mono
 have g:∀ v,R.1≤v→v≤R.2→min (floQ (lowN mu X Q) R.1) (floQ (lowN mu X Q) R.2)≤floQ (lowN mu x q) v:=fun v v0 v1=>by
  refine flo_between (a:=lowN mu X Q) (b:=lowN mu x q) h (Int.le_refl _) v0 v1 (by omega) (by omega) (by omega) ?_ ?_
  · have:=flo_mono r0 h;omega
  · have:=flo_mono (show 0<R.2 by omega) h;omega
 have g1:=g r.1 h0 (by omega)
 have g2:=g r.2 (by omega) h2
 omega
theorem lowN_hi {mu:Int} {x q:Sp} (hx:x.1≤x.2) (mu0:0≤mu) (q0:0<q.1) (q1:q.1≤q.2):lowN mu x q ≤ -lowN mu (minusP x) q:=by
 have h1:=lowN_le (x:=x) (q:=q) (u:=x.1) (v:=q.1) mu0 hx q0 q1 (by omega) (by omega) q1
 have h2:=lowN_le (x:=minusP x) (q:=q) (u:=-x.1) (v:=q.1) mu0 (by unfold minusP;simp only;omega) q0 q1 (by unfold minusP;simp only;omega) (by omega) q1
 have h3:=cei_flo (p:=mu*x.1) (c:=q.1) (by omega)
 have h4:cl 1152921504606846976 (ceiQ (mu*x.1) q.1) = -cl 1152921504606846976 (floQ (mu * -x.1) q.1):=by
  unfold ceiQ
  rw [cl_neg (by omega),Int.mul_neg]
 have h5:=cl_mono (m:=1152921504606846976) h3
 omega
theorem lowN_bd {mu:Int} {x q:Sp}:-1152921504606846976≤lowN mu x q∧lowN mu x q≤1152921504606846976:=by
 unfold lowN
 have h1:=cl_bd (m:=1152921504606846976) (a:=floQ (mu*x.1) q.1) (by omega)
 have h2:=cl_bd (m:=1152921504606846976) (a:=floQ (mu*x.2) q.1) (by omega)
 have h3:=cl_bd (m:=1152921504606846976) (a:=floQ (mu*x.1) q.2) (by omega)
 have h4:=cl_bd (m:=1152921504606846976) (a:=floQ (mu*x.2) q.2) (by omega)
 omega
theorem scaledP_val {mu:Int} {x q:Sp} (mu0:0≤mu) (mu1:mu≤1125899906842624) (hx:Ord 1152921504606846976 x) (hq:Pos 1152921504606846976 q):scaledP mu x q=(lowN mu x q,-lowN mu (minusP x) q):=by
 obtain ⟨x0,x1,x2⟩:=hx
 obtain ⟨q0,q1,q2⟩:=hq
 unfold scaledP hullP
 rw [mdP_val mu0 mu1 (by omega) (by omega) q0 (by omega),mdP_val mu0 mu1 (by omega) (by omega) q0 (by omega),mdP_val mu0 mu1 (by omega) (by omega) (by omega) (by omega),mdP_val mu0 mu1 (by omega) (by omega) (by omega) (by omega)]
 have e:∀ u v,cl 1152921504606846976 (ceiQ (mu*u) v) = -cl 1152921504606846976 (floQ (mu * -u) v):=fun u v=>by
  unfold ceiQ
  rw [cl_neg (by omega),Int.mul_neg]
 simp only [e]
 unfold lowN minusP
 simp only
 congr 1
 omega
theorem quotP_val {n r:Sp} (hn:Ord 1152921504606846976 n) (hr:Pos 1152921504606846976 r):quotP n r=(min (floQ n.1 r.1) (floQ n.1 r.2),-min (floQ (-n.2) r.1) (floQ (-n.2) r.2)):=by
 obtain ⟨n1,n2⟩:=n
 obtain ⟨r1,r2⟩:=r
 obtain ⟨a0,a1,a2⟩:=hn
 obtain ⟨c0,c1,c2⟩:=hr
 simp only at a0 a1 a2 c0 c1 c2 ⊢
 have v:=valid_ok (check_ok (a:=n1) (b:=n2) (by omega) a1 (by omega)) (check_ok (a:=r1) (b:=r2) (by omega) c1 (by omega))
 have md:∀ p c,-1152921504606846976≤p→p≤1152921504606846976→0<c→mdE p c=(floQ p c,ceiQ p c,0):=fun p c p0 p1 hc=>by
  have h1:=flo_in hc (show (0:Int)≤1152921504606846976 by omega) p0 p1
  have h2:=flo_in (p:=-p) hc (show (0:Int)≤1152921504606846976 by omega) (by omega) (by omega)
  unfold mdE ceiQ
  rw [if_pos (by omega)]
 have e1:=md n1 r1 (by omega) (by omega) c0
 have e2:=md n1 r2 (by omega) (by omega) (by omega)
 have e3:=md n2 r1 (by omega) (by omega) c0
 have e4:=md n2 r2 (by omega) (by omega) (by omega)
 have b1:=flo_in (p:=n1) c0 (show (0:Int)≤1152921504606846976 by omega) (by omega) (by omega)
 have b2:=flo_in (p:=-n2) c0 (show (0:Int)≤1152921504606846976 by omega) (by omega) (by omega)
 have m1:=flo_mono (c:=r1) c0 a1
 have m2:=flo_mono (c:=r2) (by omega) a1
 have m3:=flo_mono (c:=r1) (p:=-n2) (p':=-n1) c0 (by omega)
 have m4:=flo_mono (c:=r2) (p:=-n2) (p':=-n1) (by omega) (by omega)
 unfold quotP quotS
 simp only
 rw [if_pos v,if_neg (by omega)]
 unfold combE four
 rw [if_pos v,if_pos (by simp only [err,e1,e2,e3,e4,if_true])]
 simp only [acc,List.foldl_cons,List.foldl_nil,e1,e2,e3,e4]
 unfold ceiQ
 congr 1
 · omega
 · omega
theorem clampP_val (s:Sp):clampP s=(cl 1048576 s.1,cl 1048576 s.2):=rfl
theorem towardP_val {mu:Int} {x q r:Sp} (mu0:0≤mu) (mu1:mu≤1125899906842624) (hx:Ord 1152921504606846976 x) (hq:Pos 1152921504606846976 q) (hr:Pos 1152921504606846976 r):towardP mu x q r=(lowT mu x q r,-lowT mu (minusP x) q r):=by
 unfold towardP
 have h:=lowN_hi hx.2.1 mu0 hq.1 hq.2.1
 have b1:=lowN_bd (mu:=mu) (x:=x) (q:=q)
 have b2:=lowN_bd (mu:=mu) (x:=minusP x) (q:=q)
 rw [scaledP_val mu0 mu1 hx hq,quotP_val ⟨by simp only;omega,by simp only;omega,by simp only;omega⟩ hr,clampP_val]
 unfold lowT
 simp only [Int.neg_neg]
 rw [cl_neg (by omega)]
theorem lowT_ord {mu:Int} {x q r:Sp} (mu0:0≤mu) (hx:x.1≤x.2) (q0:0<q.1) (q1:q.1≤q.2) (r0:0<r.1):lowT mu x q r ≤ -lowT mu (minusP x) q r:=by
 have h:=lowN_hi hx mu0 q0 q1
 unfold lowT
 rw [← cl_neg (by omega)]
 apply cl_mono
 have h1:=cei_flo (p:=lowN mu x q) (c:=r.1) (by omega)
 have h2:=flo_mono (c:=r.1) r0 (show lowN mu (minusP x) q ≤ -lowN mu x q by omega)
 unfold ceiQ at h1
 omega
theorem lowT_bd {mu:Int} {x q r:Sp}:-1048576≤lowT mu x q r∧lowT mu x q r≤1048576:=cl_bd (by omega)
def OrdA (m:Int) (a:Ar):Prop:=Ord m (arX a)∧Ord m (arY a)
theorem toP_val {p:Sp} {a:Ar} (hp1:-33554432≤p.1∧p.1≤33554432) (hp2:-33554432≤p.2∧p.2≤33554432) (ha:OrdA 33554432 a):toP p a=(p.1 - a.2.1,p.1 - a.1,p.2 - a.2.2.2,p.2 - a.2.2.1):=by
 obtain ⟨⟨x0,x1,x2⟩,y0,y1,y2⟩:=ha
 simp only [arX,arY] at x0 x1 x2 y0 y1 y2
 unfold toP mkA arX arY
 rw [subP_of (check_ok (by simp only;omega) (by simp only;omega) (by simp only;omega)) (check_ok (by simp only;omega) (by simp only;omega) (by simp only;omega)) (by simp only;omega) (by simp only;omega),
  subP_of (check_ok (by simp only;omega) (by simp only;omega) (by simp only;omega)) (check_ok (by simp only;omega) (by simp only;omega) (by simp only;omega)) (by simp only;omega) (by simp only;omega)]
theorem toP_ord {p:Sp} {a:Ar} (hp1:-33554432≤p.1∧p.1≤33554432) (hp2:-33554432≤p.2∧p.2≤33554432) (ha:OrdA 33554432 a):OrdA 67108864 (toP p a):=by
 rw [toP_val hp1 hp2 ha]
 obtain ⟨⟨x0,x1,x2⟩,y0,y1,y2⟩:=ha
 simp only [arX,arY] at x0 x1 x2 y0 y1 y2
 unfold OrdA Ord arX arY
 simp only
 omega
theorem toP_sub {p:Sp} {a b:Ar} (hp1:-33554432≤p.1∧p.1≤33554432) (hp2:-33554432≤p.2∧p.2≤33554432) (ha:OrdA 33554432 a) (hb:OrdA 33554432 b) (h:SubA a b):SubA (toP p a) (toP p b):=by
 rw [toP_val hp1 hp2 ha,toP_val hp1 hp2 hb]
 obtain ⟨⟨x0,x1,x2⟩,y0,y1,y2⟩:=h
 simp only [arX,arY] at x0 x1 x2 y0 y1 y2
 unfold SubA Sub arX arY
 simp only
 omega
def lsz (x:Sp):Int:=max (max 0 x.1) (-x.2)
def gsz (x:Sp):Int:=max (-x.1) x.2
theorem squareP_val {x:Sp} (h:Ord 67108864 x):squareP x=(lsz x*lsz x,gsz x*gsz x)∧(0≤lsz x*lsz x∧lsz x*lsz x≤gsz x*gsz x)∧gsz x*gsz x≤4503599627370496:=by
 have hc:=(h.mono (m':=1152921504606846976) (by omega)).check
 obtain ⟨h0,h1,h2⟩:=h
 have b0:0≤lsz x:=by unfold lsz;omega
 have b1:lsz x≤gsz x:=by unfold lsz gsz;omega
 have b2:gsz x≤67108864:=by unfold gsz;omega
 have m0:0≤lsz x*lsz x:=Int.mul_nonneg b0 b0
 have m1:lsz x*lsz x≤gsz x*gsz x:=sq_mono b0 b1
 have m2:gsz x*gsz x≤4503599627370496:=by have:=sq_mono (a:=gsz x) (by omega) b2;omega
 refine ⟨?_,⟨m0,m1⟩,m2⟩
 unfold squareP squareS
 rw [if_pos hc,if_neg (by unfold gsz at b2;omega)]
 unfold endsS
 rw [if_pos ⟨(fits_iff _).2 (by unfold lsz gsz at *;omega),(fits_iff _).2 (by unfold lsz gsz at *;omega)⟩]
 rfl
def sqsL (r:Int) (v:Ar):Int:=max (lsz (arX v)*lsz (arX v)+lsz (arY v)*lsz (arY v)) (edgeV r)
def sqsH (r:Int) (v:Ar):Int:=max (gsz (arX v)*gsz (arX v)+gsz (arY v)*gsz (arY v)) (edgeV r)
theorem edge_bd {r:Int} (r0:0≤r) (r1:r≤1048576):1≤edgeV r∧edgeV r≤1099511627776:=by
 have:=sq_mono r0 r1
 unfold edgeV;omega
theorem sqP_val {r:Int} {v:Ar} (hv:OrdA 67108864 v):sqP r v=(sqsL r v,sqsH r v):=by
 obtain ⟨e1,⟨a0,a1⟩,a2⟩:=squareP_val hv.1
 obtain ⟨e2,⟨b0,b1⟩,b2⟩:=squareP_val hv.2
 unfold sqP
 rw [e1,e2,addP_of (check_ok (by simp only;omega) (by simp only;omega) (by simp only;omega)) (check_ok (by simp only;omega) (by simp only;omega) (by simp only;omega)) (by simp only;omega) (by simp only;omega)]
 rfl
theorem sqs_bd {r:Int} {v:Ar} (r0:0≤r) (r1:r≤1048576) (hv:OrdA 67108864 v):Pos 9007199254740992 (sqsL r v,sqsH r v):=by
 obtain ⟨_,⟨a0,a1⟩,a2⟩:=squareP_val hv.1
 obtain ⟨_,⟨b0,b1⟩,b2⟩:=squareP_val hv.2
 obtain ⟨c0,c1⟩:=edge_bd r0 r1
 unfold Pos sqsL sqsH
 simp only
 omega
theorem lsz_mono {x y:Sp} (h:Sub x y):lsz y≤lsz x∧gsz x≤gsz y∧0≤lsz y∧0≤gsz x:=by
 obtain ⟨h0,h1,h2⟩:=h
 unfold lsz gsz;omega
theorem sqs_sub {r:Int} {u v:Ar} (h:SubA u v):sqsL r v≤sqsL r u∧sqsH r u≤sqsH r v:=by
 obtain ⟨a1,a2,a3,a4⟩:=lsz_mono h.1
 obtain ⟨b1,b2,b3,b4⟩:=lsz_mono h.2
 have m1:=sq_mono a3 a1
 have m2:=sq_mono b3 b1
 have m3:=sq_mono a4 a2
 have m4:=sq_mono b4 b2
 unfold sqsL sqsH
 omega
theorem distP_val {r:Int} {v:Ar} (r0:0≤r) (r1:r≤1048576) (hv:OrdA 67108864 v):distP r v=(isq (sqsL r v),upq (sqsH r v)):=by
 have hb:=sqs_bd r0 r1 hv
 unfold distP
 rw [sqP_val hv]
 unfold rootsP rootsS
 obtain ⟨h0,h1,h2⟩:=hb
 simp only at h0 h1 h2 ⊢
 rw [if_pos (check_ok (by omega) h1 (by omega)),if_neg (by omega)]
 rfl
theorem isq_pos {x:Int} (h:1≤x) (h1:x<18446744073709551616):1≤isq x:=by
 obtain ⟨a0,a1,a2⟩:=isq_spec x (by omega) h1
 rcases Int.lt_or_le (isq x) 1 with h2 | h2
 · have e:isq x=0:=by omega
   rw [e] at a2;omega
 · exact h2
theorem isq_le {x:Int} (h:0≤x) (h1:x<18446744073709551616):isq x≤x:=by
 obtain ⟨a0,a1,a2⟩:=isq_spec x h h1
 rcases Int.lt_or_le x (isq x) with h2 | h2
 · have h3:1≤isq x:=by omega
   have:=Int.mul_le_mul_of_nonneg_left h3 a0
   omega
 · exact h2
theorem dist_bd {r:Int} {v:Ar} (r0:0≤r) (r1:r≤1048576) (hv:OrdA 67108864 v):Pos 1152921504606846976 (isq (sqsL r v),upq (sqsH r v)):=by
 obtain ⟨h0,h1,h2⟩:=sqs_bd r0 r1 hv
 simp only at h0 h1 h2
 have i1:=isq_pos (x:=sqsL r v) (by omega) (by omega)
 have i2:=isq_mono (x:=sqsL r v) (y:=sqsH r v) (by omega) h1 (by omega)
 have i3:=upq_spec (x:=sqsH r v) (by omega) (by omega)
 have i4:=isq_le (x:=sqsH r v) (by omega) (by omega)
 have i5:upq (sqsH r v)≤isq (sqsH r v)+1:=by unfold upq;split <;> omega
 unfold Pos
 simp only
 omega
theorem pullP_val {mu r:Int} {p:Sp} {a:Ar} (mu0:0≤mu) (mu1:mu≤1125899906842624) (r0:0≤r) (r1:r≤1048576) (hp1:-33554432≤p.1∧p.1≤33554432) (hp2:-33554432≤p.2∧p.2≤33554432) (ha:OrdA 33554432 a) :
 pullP mu r p a=(lowT mu (arX (toP p a)) (sqsL r (toP p a),sqsH r (toP p a)) (isq (sqsL r (toP p a)),upq (sqsH r (toP p a))),-lowT mu (minusP (arX (toP p a))) (sqsL r (toP p a),sqsH r (toP p a)) (isq (sqsL r (toP p a)),upq (sqsH r (toP p a))),
  lowT mu (arY (toP p a)) (sqsL r (toP p a),sqsH r (toP p a)) (isq (sqsL r (toP p a)),upq (sqsH r (toP p a))),-lowT mu (minusP (arY (toP p a))) (sqsL r (toP p a),sqsH r (toP p a)) (isq (sqsL r (toP p a)),upq (sqsH r (toP p a)))):=by
 have ho:=toP_ord hp1 hp2 ha
 have hq:=sqs_bd r0 r1 ho
 have hd:=dist_bd r0 r1 ho
 have hq':Pos 1152921504606846976 (sqsL r (toP p a),sqsH r (toP p a)):=⟨hq.1,hq.2.1,by have:=hq.2.2;omega⟩
 unfold pullP
 rw [sqP_val ho,distP_val r0 r1 ho,towardP_val mu0 mu1 (ho.1.mono (by omega)) hq' hd,towardP_val mu0 mu1 (ho.2.mono (by omega)) hq' hd]
 rfl
theorem pull_sub {mu r:Int} {p:Sp} {a b:Ar} (mu0:0≤mu) (mu1:mu≤1125899906842624) (r0:0≤r) (r1:r≤1048576) (hp1:-33554432≤p.1∧p.1≤33554432) (hp2:-33554432≤p.2∧p.2≤33554432) (ha:OrdA 33554432 a) (hb:OrdA 33554432 b) (h:SubA a b) :
 SubA (pullP mu r p a) (pullP mu r p b):=by
 rw [pullP_val mu0 mu1 r0 r1 hp1 hp2 ha,pullP_val mu0 mu1 r0 r1 hp1 hp2 hb]
 have hoa:=toP_ord hp1 hp2 ha
 have hob:=toP_ord hp1 hp2 hb
 have ht:=toP_sub hp1 hp2 ha hb h
 have hqa:=sqs_bd r0 r1 hoa
 have hqb:=sqs_bd r0 r1 hob
 have hda:=dist_bd r0 r1 hoa
 have hdb:=dist_bd r0 r1 hob
 have hs:=sqs_sub (r:=r) ht
 have hq:Sub (sqsL r (toP p a),sqsH r (toP p a)) (sqsL r (toP p b),sqsH r (toP p b)):=⟨hs.1,hqa.2.1,hs.2⟩
 obtain ⟨qa0,qa1,qa2⟩:=hqa
 obtain ⟨qb0,qb1,qb2⟩:=hqb
 simp only at qa0 qa1 qa2 qb0 qb1 qb2
 have hd:Sub (isq (sqsL r (toP p a)),upq (sqsH r (toP p a))) (isq (sqsL r (toP p b)),upq (sqsH r (toP p b))) :=
  ⟨isq_mono (by omega) hs.1 (by omega),hda.2.1,upq_mono (by omega) hs.2 (by omega)⟩
 have l1:=lowT_mono mu0 ht.1 (by simp only;omega) hq hdb.1 hd
 have l2:=lowT_mono mu0 ht.1.neg (by simp only;omega) hq hdb.1 hd
 have l3:=lowT_mono mu0 ht.2 (by simp only;omega) hq hdb.1 hd
 have l4:=lowT_mono mu0 ht.2.neg (by simp only;omega) hq hdb.1 hd
 have o1:=lowT_ord (q:=(sqsL r (toP p a),sqsH r (toP p a))) (r:=(isq (sqsL r (toP p a)),upq (sqsH r (toP p a)))) mu0 hoa.1.2.1 qa0 qa1 hda.1
 have o2:=lowT_ord (q:=(sqsL r (toP p a),sqsH r (toP p a))) (r:=(isq (sqsL r (toP p a)),upq (sqsH r (toP p a)))) mu0 hoa.2.2.1 qa0 qa1 hda.1
 refine ⟨⟨l1,?_,?_⟩,l3,?_,?_⟩
 · exact o1
 · show -lowT _ _ _ _ ≤ -lowT _ _ _ _;omega
 · exact o2
 · show -lowT _ _ _ _ ≤ -lowT _ _ _ _;omega
end Go.Proofs.YteafglginnonnaaGreat
