/- Several texts in one. -/
import Derived.Test.YteafglginnonnaaGreatSkyI
import Derived.Test.YteafglginnonnaaGreatSkyP
import Derived.Test.YteafglginnonnaaGreatTail
import Derived.Shelf.Abstract
/- Searches in lists of places, stations, catalogs; which worlds are valid; where a body is at a tick. Conditions: what lies in memory. -/
set_option linter.unusedVariables false
set_option linter.unusedSimpArgs false
namespace Go.Proofs.YteafglginnonnaaGreat
open Go.RowKit Go.Shelf
def firstI {α:Type} (F:α→Bool) (l:List α):Int:=match l.findIdx? F with
 | some i=>i
 | none=>-1
def noneYet {α:Type} (F:α→Bool) (l:List α) (k:Nat):Prop:=∀ i p,i<k→l[i]?=some p→F p=false
theorem noneYet.succ {α:Type} {F:α→Bool} {l:List α} {k:Nat} {p:α} (h:noneYet F l k) (hp:l[k]?=some p) (hF:F p=false):noneYet F l (k+1):=fun i q hi hq=>by
 by_cases hik:i=k
 · subst hik;rw [hp] at hq;cases hq;exact hF
 · exact h i q (by omega) hq
theorem firstI_found {α:Type} {F:α→Bool} {l:List α} {k:Nat} {p:α} (h:noneYet F l k) (hp:l[k]?=some p) (hF:F p=true):firstI F l=k:=by
 unfold firstI
 have:l.findIdx? F=some k:=by
  rw [List.findIdx?_eq_some_iff_getElem]
  obtain ⟨hk,he⟩:=List.getElem?_eq_some_iff.1 hp
  refine ⟨hk,by rw [he];exact hF,fun j hj=>?_⟩
  rw [h j _ hj (List.getElem?_eq_getElem (by omega))]
  simp
 rw [this]
theorem firstI_none {α:Type} {F:α→Bool} {l:List α} (h:noneYet F l l.length):firstI F l = -1:=by
 unfold firstI
 have:l.findIdx? F=none:=by
  rw [List.findIdx?_eq_none_iff]
  intro x hx
  obtain ⟨i,hi,rfl⟩:=List.getElem_of_mem hx
  exact h i _ hi (List.getElem?_eq_getElem hi)
 rw [this]
theorem firstI_ge {α:Type} (F:α→Bool) (l:List α):decide (0≤firstI F l)=l.any F:=by
 unfold firstI
 cases h:l.findIdx? F with
 | none =>
  rw [List.findIdx?_eq_none_iff] at h
  have:l.any F=false:=by rw [List.any_eq_false];intro x hx;rw [h x hx];simp
  rw [this];rfl
 | some i =>
  obtain ⟨hi,h1,_⟩:=List.findIdx?_eq_some_iff_getElem.1 h
  have:l.any F=true:=List.any_eq_true.2 ⟨_,List.getElem_mem hi,h1⟩
  rw [this];simp
theorem ixvec_any (g:Nat) (cap:Array Value) (eg:∀ args w,(callFunc g args).run Tryz.prog w=.ok (.enter g args) w) (F:Int×Int→Bool) {K:Nat→Prop} {a:Option Addr} {n c:Nat} {l:List (Int×Int)} {w:World} (hl:Vecs K w (.slice a n c) l)
 (hF:∀ p W,p∈l→Up w W→Gives Tryz.prog g (#[.agg #[.int .i64 p.1,.int .i64 p.2]]++cap) W (.bool (F p))) :
 Gives Tryz.prog 174 #[.slice a n c,.func (.func g) #[] cap] w (.int .i64 (firstI F l)):=by
 have hn:=(Vecs.at hl).1
 have hm:=(Vecs.at hl).2.1
 have HF:=hide (And.intro hF hl)
 have HN:=hide hn
 clear hF hl hn
 (unfold Gives;go_enter Tryz.func174,Tryz.ntmps174)
 go_wp2
 go_loopw [8] (fun s8 wr=>∃ k:Nat,k≤n∧s8=.int .i64 k∧Up w wr∧Hid (noneYet F l k)) (fun s8 _=>n - (intOf s8).toNat)
 case atStart=>exact ⟨0,by omega,rfl,Up.refl _,hide (fun i p hi _=>by omega)⟩
 case round =>
  obtain ⟨k,hk,rfl,hu,hb⟩:=hrel
  by_cases hlt:k<n
  · obtain ⟨b,o,p,rfl,hKb,hbw,hp,hpp,hc0,hc1⟩:=(Vecs.at (HF.out.2.keeps (hu.keeps K))).2.2 k hlt
    have hkb:decide ((k:Int)<n)=true:=by simp;omega
    have HC:=hide (HF.out.1 p _ (List.mem_of_getElem? hp) hu)
    have HP:=hide hp
    have HU:=hide hu
    clear hp hu hpp hKb
    rcases hF:F p with _ | _
    · have HS:=hide hF
      rw [hF] at HC
      clear hF
      go_wp2
      refine HC.out.mono ?_
      intro px
      go_wp2
      refine ⟨⟨k+1,by omega,by go_num,HU.out.ext _,hide (hb.out.succ HP.out HS.out)⟩,by simp [intOf];omega⟩
    · have HS:=hide hF
      rw [hF] at HC
      clear hF
      go_wp2
      refine HC.out.mono ?_
      intro px
      go_wp2
      go_ret
      exact ⟨by rw [firstI_found hb.out HP.out HS.out];rfl,HU.out.ext _⟩
  · have hkb:decide ((k:Int)<n)=false:=by simp;omega
    obtain rfl:k=n:=by omega
    go_wp2
    go_ret
    exact ⟨by rw [firstI_none (by rw [← HN.out];exact hb.out)];rfl,hu⟩
theorem ixsta_any (g:Nat) (cap:Array Value) (eg:∀ args w,(callFunc g args).run Tryz.prog w=.ok (.enter g args) w) (F:Int×Int×Int→Bool) {K:Nat→Prop} {a:Option Addr} {n c:Nat} {l:List (Int×Int×Int)} {w:World} (hl:Tris K w (.slice a n c) l)
 (hF:∀ p W,p∈l→Up w W→Gives Tryz.prog g (#[.agg #[.int .i64 p.1,.int .i64 p.2.1,.int .i64 p.2.2]]++cap) W (.bool (F p))) :
 Gives Tryz.prog 132 #[.slice a n c,.func (.func g) #[] cap] w (.int .i64 (firstI F l)):=by
 have hn:=(Tris.at hl).1
 have hm:=(Tris.at hl).2.1
 have HF:=hide (And.intro hF hl)
 have HN:=hide hn
 clear hF hl hn
 (unfold Gives;go_enter Tryz.func132,Tryz.ntmps132)
 go_wp2
 go_loopw [8] (fun s8 wr=>∃ k:Nat,k≤n∧s8=.int .i64 k∧Up w wr∧Hid (noneYet F l k)) (fun s8 _=>n - (intOf s8).toNat)
 case atStart=>exact ⟨0,by omega,rfl,Up.refl _,hide (fun i p hi _=>by omega)⟩
 case round =>
  obtain ⟨k,hk,rfl,hu,hb⟩:=hrel
  by_cases hlt:k<n
  · obtain ⟨b,o,p,rfl,hKb,hbw,hp,hpp,hc0,hc1,hc2⟩:=(Tris.at (HF.out.2.keeps (hu.keeps K))).2.2 k hlt
    have hkb:decide ((k:Int)<n)=true:=by simp;omega
    have HC:=hide (HF.out.1 p _ (List.mem_of_getElem? hp) hu)
    have HP:=hide hp
    have HU:=hide hu
    clear hp hu hpp hKb
    rcases hF:F p with _ | _
    · have HS:=hide hF
      rw [hF] at HC
      clear hF
      go_wp2
      refine HC.out.mono ?_
      intro px
      go_wp2
      refine ⟨⟨k+1,by omega,by go_num,HU.out.ext _,hide (hb.out.succ HP.out HS.out)⟩,by simp [intOf];omega⟩
    · have HS:=hide hF
      rw [hF] at HC
      clear hF
      go_wp2
      refine HC.out.mono ?_
      intro px
      go_wp2
      go_ret
      exact ⟨by rw [firstI_found hb.out HP.out HS.out];rfl,HU.out.ext _⟩
  · have hkb:decide ((k:Int)<n)=false:=by simp;omega
    obtain rfl:k=n:=by omega
    go_wp2
    go_ret
    exact ⟨by rw [firstI_none (by rw [← HN.out];exact hb.out)];rfl,hu⟩
theorem ixcat_any (g:Nat) (cap:Array Value) (eg:∀ args w,(callFunc g args).run Tryz.prog w=.ok (.enter g args) w) (F:Int×Int×Int→Bool) {K:Nat→Prop} {a:Option Addr} {n c:Nat} {l:List (Int×Int×Int)} {w:World} (hl:Tris K w (.slice a n c) l)
 (hF:∀ p W,p∈l→Up w W→Gives Tryz.prog g (#[.agg #[.int .i64 p.1,.int .i64 p.2.1,.int .i64 p.2.2]]++cap) W (.bool (F p))) :
 Gives Tryz.prog 94 #[.slice a n c,.func (.func g) #[] cap] w (.int .i64 (firstI F l)):=by
 have hn:=(Tris.at hl).1
 have hm:=(Tris.at hl).2.1
 have HF:=hide (And.intro hF hl)
 have HN:=hide hn
 clear hF hl hn
 (unfold Gives;go_enter Tryz.func94,Tryz.ntmps94)
 go_wp2
 go_loopw [8] (fun s8 wr=>∃ k:Nat,k≤n∧s8=.int .i64 k∧Up w wr∧Hid (noneYet F l k)) (fun s8 _=>n - (intOf s8).toNat)
 case atStart=>exact ⟨0,by omega,rfl,Up.refl _,hide (fun i p hi _=>by omega)⟩
 case round =>
  obtain ⟨k,hk,rfl,hu,hb⟩:=hrel
  by_cases hlt:k<n
  · obtain ⟨b,o,p,rfl,hKb,hbw,hp,hpp,hc0,hc1,hc2⟩:=(Tris.at (HF.out.2.keeps (hu.keeps K))).2.2 k hlt
    have hkb:decide ((k:Int)<n)=true:=by simp;omega
    have HC:=hide (HF.out.1 p _ (List.mem_of_getElem? hp) hu)
    have HP:=hide hp
    have HU:=hide hu
    clear hp hu hpp hKb
    rcases hF:F p with _ | _
    · have HS:=hide hF
      rw [hF] at HC
      clear hF
      go_wp2
      refine HC.out.mono ?_
      intro px
      go_wp2
      refine ⟨⟨k+1,by omega,by go_num,HU.out.ext _,hide (hb.out.succ HP.out HS.out)⟩,by simp [intOf];omega⟩
    · have HS:=hide hF
      rw [hF] at HC
      clear hF
      go_wp2
      refine HC.out.mono ?_
      intro px
      go_wp2
      go_ret
      exact ⟨by rw [firstI_found hb.out HP.out HS.out];rfl,HU.out.ext _⟩
  · have hkb:decide ((k:Int)<n)=false:=by simp;omega
    obtain rfl:k=n:=by omega
    go_wp2
    go_ret
    exact ⟨by rw [firstI_none (by rw [← HN.out];exact hb.out)];rfl,hu⟩
theorem anyvec_any (g:Nat) (cap:Array Value) (eg:∀ args w,(callFunc g args).run Tryz.prog w=.ok (.enter g args) w) (F:Int×Int→Bool) {K:Nat→Prop} {a:Option Addr} {n c:Nat} {l:List (Int×Int)} {w:World} (hl:Vecs K w (.slice a n c) l)
 (hF:∀ p W,p∈l→Up w W→Gives Tryz.prog g (#[.agg #[.int .i64 p.1,.int .i64 p.2]]++cap) W (.bool (F p))) :
 Gives Tryz.prog 138 #[.slice a n c,.func (.func g) #[] cap] w (.bool (l.any F)):=by
 have HX:=hide (ixvec_any g cap eg F hl hF)
 clear hl hF
 (unfold Gives;go_enter Tryz.func138,Tryz.ntmps138)
 go_wp2_with (go_at_call 174;refine (HX.out).mono ?_;intro _)
 go_ret
 exact ⟨ret_bool (firstI_ge F l),Up.go⟩
theorem anysta_any (g:Nat) (cap:Array Value) (eg:∀ args w,(callFunc g args).run Tryz.prog w=.ok (.enter g args) w) (F:Int×Int×Int→Bool) {K:Nat→Prop} {a:Option Addr} {n c:Nat} {l:List (Int×Int×Int)} {w:World} (hl:Tris K w (.slice a n c) l)
 (hF:∀ p W,p∈l→Up w W→Gives Tryz.prog g (#[.agg #[.int .i64 p.1,.int .i64 p.2.1,.int .i64 p.2.2]]++cap) W (.bool (F p))) :
 Gives Tryz.prog 86 #[.slice a n c,.func (.func g) #[] cap] w (.bool (l.any F)):=by
 have HX:=hide (ixsta_any g cap eg F hl hF)
 clear hl hF
 (unfold Gives;go_enter Tryz.func86,Tryz.ntmps86)
 go_wp2_with (go_at_call 132;refine (HX.out).mono ?_;intro _)
 go_ret
 exact ⟨ret_bool (firstI_ge F l),Up.go⟩
theorem anycat_any (g:Nat) (cap:Array Value) (eg:∀ args w,(callFunc g args).run Tryz.prog w=.ok (.enter g args) w) (F:Int×Int×Int→Bool) {K:Nat→Prop} {a:Option Addr} {n c:Nat} {l:List (Int×Int×Int)} {w:World} (hl:Tris K w (.slice a n c) l)
 (hF:∀ p W,p∈l→Up w W→Gives Tryz.prog g (#[.agg #[.int .i64 p.1,.int .i64 p.2.1,.int .i64 p.2.2]]++cap) W (.bool (F p))) :
 Gives Tryz.prog 88 #[.slice a n c,.func (.func g) #[] cap] w (.bool (l.any F)):=by
 have HX:=hide (ixcat_any g cap eg F hl hF)
 clear hl hF
 (unfold Gives;go_enter Tryz.func88,Tryz.ntmps88)
 go_wp2_with (go_at_call 94;refine (HX.out).mono ?_;intro _)
 go_ret
 exact ⟨ret_bool (firstI_ge F l),Up.go⟩
theorem skwithin_any (n lo hi:Int) (w:World):Gives Tryz.prog 129 #[.int .i64 n,.int .i64 lo,.int .i64 hi] w (.bool (withinB n lo hi)):=by
 (unfold Gives;go_enter Tryz.func129,Tryz.ntmps129)
 go_wp2
 all_goals go_ret
 all_goals refine ⟨ret_bool ?_,Up.refl _⟩
 · rename_i h;simp [withinB,h]
 · rename_i h;simp [withinB];omega
theorem sknear_any (x y m:Int) (m0:0≤m) (m1:m≤9223372036854775807) (w:World):Gives Tryz.prog 82 #[.agg #[.int .i64 x,.int .i64 y],.int .i64 m] w (.bool (nearV m (x,y))):=by
 (unfold Gives;go_enter Tryz.func82,Tryz.ntmps82)
 go_wp2_with (go_at_call 129;refine (skwithin_any _ _ _ _).mono ?_;intro _)
 all_goals (go_ret;refine ⟨ret_bool ?_,Up.go⟩)
 all_goals (go_light;first|(simp_all [nearV];done)|(simp_all [nearV];omega)|(simp_all [nearV];repeat' split;all_goals (first|(simp_all;done)|omega|(simp_all;omega))))
theorem skbody1_any (p:Int×Int) (w:World):Gives Tryz.prog 169 #[.agg #[.int .i64 p.1,.int .i64 p.2]] w (.bool (!nearV 33554432 p)):=by
 (unfold Gives;go_enter Tryz.func169,Tryz.ntmps169)
 go_wp2_with (go_at_call 82;refine (sknear_any _ _ _ (by omega) (by omega) _).mono ?_;intro _)
 go_ret
 exact ⟨rfl,Up.go⟩
theorem all_of_any {α:Type} (F:α→Bool) (l:List α):(l.any fun x=>!F x)=!(l.all F):=by
 induction l with
 | nil=>rfl
 | cons x l ih=>simp [ih]
theorem skbody_any {K:Nat→Prop} {w:World} {b:Bod} {ta:Option Addr} {tn tc:Nat} (ht:Vecs K w (.slice ta tn tc) b.track) :
 Gives Tryz.prog 128 #[.agg #[.int .i64 b.mu,.int .i64 b.radius,.slice ta tn tc]] w (.int .i64 (bodyE b)):=by
 have hn:=(Vecs.at ht).1
 have hm:=(Vecs.at ht).2.1
 have HX:=hide (fun W (hu:Up w W)=>anyvec_any 169 #[] (enters_of Tryz.func169 (by kernel_rfl) rfl) (fun p=>!nearV 33554432 p) (ht.keeps (hu.keeps K)) (fun p W _ _=>skbody1_any p W))
 rw [all_of_any] at HX
 have hE:bodyE b=if (withinB b.mu 0 1125899906842624&&withinB b.radius 0 1048576)=false then 2
  else if tn=0 then 6 else if 4096<tn then 8 else if b.track.all (nearV 33554432)=false then 2 else 0:=by unfold bodyE;rw [← hn]
 rw [hE]
 clear hE hn ht
 obtain ⟨T,hT⟩:∃ T,b.track.all (nearV 33554432)=T:=⟨_,rfl⟩
 rw [hT] at HX
 rw [hT]
 clear hT
 (unfold Gives;go_enter Tryz.func128,Tryz.ntmps128)
 go_wp2_with (first|(go_at_call 129;refine (skwithin_any _ _ _ _).mono ?_;intro _)|(go_at_call 138;refine (HX.out _ Up.go).mono ?_;intro _))
 all_goals (go_ret;refine ⟨ret_int ?_,Up.go⟩)
 all_goals (go_light;simp_all)
theorem firstE_found {α:Type} {f:α→Int} {l:List α} {k:Nat} {p:α} (h:noneYet (fun x=>f x != 0) l k) (hp:l[k]?=some p) (hf:f p≠0):firstE f l=f p:=by
 induction l generalizing k with
 | nil=>simp at hp
 | cons x l ih =>
  unfold firstE
  cases k with
  | zero=>simp at hp;subst hp;rw [if_neg hf]
  | succ k =>
   have h0:=h 0 x (by omega) rfl
   rw [if_pos (by simpa using h0)]
   exact ih (k:=k) (fun i q hi hq=>h (i+1) q (show i+1<k+1 by omega) (by simpa using hq)) (by simpa using hp)
theorem firstE_none {α:Type} {f:α→Int} {l:List α} (h:noneYet (fun x=>f x != 0) l l.length):firstE f l=0:=by
 induction l with
 | nil=>rfl
 | cons x l ih =>
  unfold firstE
  have h0:=h 0 x (by simp) rfl
  rw [if_pos (by simpa using h0)]
  exact ih (fun i q hi hq=>h (i+1) q (by simp;omega) (by simpa using hq))
theorem skworld_any {K:Nat→Prop} {w:World} {a:Option Addr} {n c:Nat} {l:List Bod} {home:Int} (hl:Bods K w (.slice a n c) l) (hh:I64 home) :
 Gives Tryz.prog 81 #[.agg #[.slice a n c,.int .i64 home]] w (.int .i64 (worldE l home)):=by
 have hn:=(Bods.at hl).1
 have hm:=(Bods.at hl).2.1
 obtain ⟨hh0,hh1⟩:=hh
 by_cases z0:n=0
 · have hE:worldE l home=6:=by unfold worldE;rw [if_pos (by omega)]
   rw [hE]
   clear hE hl hn
   subst z0
   (unfold Gives;go_enter Tryz.func81,Tryz.ntmps81)
   go_wp2
   go_ret
   exact ⟨rfl,Up.go⟩
 by_cases z8:8<n
 · have hE:worldE l home=8:=by unfold worldE;rw [if_neg (by omega),if_pos (by omega)]
   rw [hE]
   clear hE hl hn
   have hb0:((n:Int)==0)=false:=by simp;omega
   (unfold Gives;go_enter Tryz.func81,Tryz.ntmps81)
   go_wp2
   go_ret
   exact ⟨rfl,Up.go⟩
 have hE:worldE l home=if firstE bodyE l=0 then (if home<0∨(n:Int)≤home then 7 else 0) else firstE bodyE l:=by unfold worldE;rw [if_neg (by omega),if_neg (by omega),hn]
 have HE:=hide hE
 have HN:=hide hn
 have HL:=hide hl
 have hb0:((n:Int)==0)=false:=by simp;omega
 clear hE hn hl
 (unfold Gives;go_enter Tryz.func81,Tryz.ntmps81)
 go_wp2
 go_loopw [19] (fun s wr=>∃ k:Nat,k≤n∧s=.int .i64 k∧Up (w.alloc (.cells #[.slice a n c,.int .i64 home] 25)) wr∧Hid (noneYet (fun x=>bodyE x != 0) l k)) (fun s _=>n - (intOf s).toNat)
 case atStart=>exact ⟨0,by omega,rfl,Up.refl _,hide (fun i p hi _=>by omega)⟩
 case round =>
  obtain ⟨k,hk,rfl,hu,hb⟩:=hrel
  have hu2:Up w wr:=((Up.refl w).alloc _).trans hu
  by_cases hlt:k<n
  · obtain ⟨b,o,p,ta,tn,tc,rfl,hKb,hbw,hp,hpp,hc0,hc1,hc2,ht⟩:=(Bods.at (HL.out.keeps (hu2.keeps K))).2.2 k hlt
    have hkb:decide ((k:Int)<n)=true:=by simp;omega
    have HP:=hide (And.intro hp (And.intro hu hu2))
    have HT:=hide ht
    clear hp hu hu2 hpp hKb ht
    by_cases hF:bodyE p=0
    · have hF':(bodyE p != 0)=false:=by simp [hF]
      have HS:=hide hF
      clear hF
      go_wp2_with (go_at_call 128;refine (skbody_any (HT.out.keeps (Up.keeps Up.go K))).mono ?_;intro _)
      refine ⟨⟨k+1,by omega,by go_num,HP.out.2.1.trans Up.go,hide (hb.out.succ HP.out.1 (by simpa using HS.out))⟩,by simp [intOf];omega⟩
    · have hF':(bodyE p != 0)=true:=by simp [hF]
      have HS:=hide hF
      clear hF
      go_wp2_with (go_at_call 128;refine (skbody_any (HT.out.keeps (Up.keeps Up.go K))).mono ?_;intro _)
      go_ret
      refine ⟨ret_int ?_,HP.out.2.2.trans Up.go⟩
      rw [HE.out,firstE_found hb.out HP.out.1 HS.out,if_neg HS.out]
  · have hkb:decide ((k:Int)<n)=false:=by simp;omega
    obtain rfl:k=n:=by omega
    have hbx:Box wr w.heap.size #[.slice a k c,.int .i64 home] 25:=(Box.mk rfl).up hu
    obtain ⟨c0,c1⟩:=hbx.c2
    have hE2:worldE l home=if home<0∨(k:Int)≤home then 7 else 0:=by rw [HE.out,firstE_none (by rw [← HN.out];exact hb.out),if_pos rfl]
    have HE2:=hide hE2
    have HU:=hide hu2
    clear hu hu2 hbx hE2
    go_wp2
    all_goals (go_ret;refine ⟨ret_int ?_,HU.out.trans Up.go⟩;rw [HE2.out])
    all_goals (go_light;simp_all)
theorem sktrack_any {K:Nat→Prop} {w:World} {a:Option Addr} {n c:Nat} {l:List (Int×Int)} {t:Int} (hl:Vecs K w (.slice a n c) l) (hn0:0<n) (t0:0≤t) (t1:t≤9223372036854775807) :
 Gives Tryz.prog 136 #[.slice a n c,.int .i64 t] w (.agg #[.int .i64 (l.getD (t % (l.length:Int)).toNat (0,0)).1,.int .i64 (l.getD (t % (l.length:Int)).toNat (0,0)).2]):=by
 have hn:=(Vecs.at hl).1
 have hm:=(Vecs.at hl).2.1
 obtain ⟨j,hj,hjn⟩:∃ j:Nat,t % (n:Int)=j∧j<n:=by
  have h1:=Int.emod_nonneg t (show (n:Int)≠0 by omega)
  have h2:=Int.emod_lt_of_pos t (show (0:Int)<n by omega)
  obtain ⟨j,hj⟩:=Int.eq_ofNat_of_zero_le h1
  exact ⟨j,hj,by omega⟩
 obtain ⟨b,o,p,rfl,hKb,hbw,hp,hpp,hc0,hc1⟩:=(Vecs.at hl).2.2 j hjn
 have hv:l.getD (t % (l.length:Int)).toNat (0,0)=p:=by rw [← hn,hj];simp [List.getD,hp]
 rw [hv]
 have j0:(0:Int)≤(j:Int):=by omega
 have j1:(j:Int)<n:=by omega
 clear hl hn hp hv hpp hKb
 (unfold Gives;go_enter Tryz.func136,Tryz.ntmps136)
 go_wp2
 all_goals (refine bodyPost_give Up.go rfl ⟨_,(by simp [results,Tryz.results136,go_sem];rfl),?_⟩)
 all_goals rfl
theorem worldE_zero {l:List Bod} {home:Int} (h:worldE l home=0):l≠[]∧l.length≤8∧(∀ b∈l,bodyE b=0)∧0≤home∧home<l.length:=by
 unfold worldE at h
 by_cases h0:l.length=0
 · rw [if_pos h0] at h;omega
 rw [if_neg h0] at h
 by_cases h8:8<l.length
 · rw [if_pos h8] at h;omega
 rw [if_neg h8] at h
 have all:∀ (l:List Bod),firstE bodyE l=0→∀ b∈l,bodyE b=0:=fun l=>by
  induction l with
  | nil=>intro _ b hb;cases hb
  | cons x l ih =>
   intro h b hb
   unfold firstE at h
   split at h
   · rename_i hx
     rcases List.mem_cons.1 hb with rfl | hb
     · exact hx
     · exact ih h b hb
   · contradiction
 split at h
 · rename_i hf
   split at h
   · omega
   · rename_i hh
     exact ⟨fun e=>h0 (by rw [e];rfl),by omega,all l hf,by omega,by omega⟩
 · contradiction
theorem bodyE_zero {b:Bod} (h:bodyE b=0):(0≤b.mu∧b.mu≤1125899906842624)∧(0≤b.radius∧b.radius≤1048576)∧0<b.track.length∧b.track.length≤4096∧∀ p∈b.track,(-33554432≤p.1∧p.1≤33554432) ∧ -33554432≤p.2∧p.2≤33554432:=by
 unfold bodyE at h
 split at h
 · omega
 rename_i h1
 split at h
 · omega
 split at h
 · omega
 split at h
 · omega
 rename_i h2
 simp only [Bool.not_eq_false,Bool.and_eq_true,withinB,decide_eq_true_eq] at h1
 refine ⟨h1.1,h1.2,by omega,by omega,fun p hp=>?_⟩
 simp only [Bool.not_eq_false,List.all_eq_true] at h2
 have:=h2 p hp
 simp only [nearV,withinB,Bool.and_eq_true,decide_eq_true_eq] at this
 exact this
theorem placeV_mem {b:Bod} (h:0<b.track.length) (t:Int):placeV b t∈b.track:=by
 have h2:=Int.emod_lt_of_pos t (show (0:Int)<b.track.length by omega)
 have h1:=Int.emod_nonneg t (show (b.track.length:Int)≠0 by omega)
 have hlt:(t % (b.track.length:Int)).toNat<b.track.length:=by omega
 unfold placeV
 rw [List.getD_eq_getElem?_getD,List.getElem?_eq_getElem hlt]
 exact List.getElem_mem hlt
def atW (l:List Bod) (home i t:Int):Int×Int :=
 if worldE l home=0∧0≤i∧i<l.length∧withinB t 0 1073741824=true then placeV (l.getD i.toNat ⟨0,0,[]⟩) t else (0,0)
theorem skat_any {K:Nat→Prop} {w:World} {a:Option Addr} {n c:Nat} {l:List Bod} {home:Int} (hl:Bods K w (.slice a n c) l) (hh:I64 home) (i t:Int) :
 Gives Tryz.prog 100 #[.agg #[.slice a n c,.int .i64 home],.int .i64 i,.int .i64 t] w (.agg #[.int .i64 (atW l home i t).1,.int .i64 (atW l home i t).2]):=by
 have hn:=(Bods.at hl).1
 have hm:=(Bods.at hl).2.1
 have HL:=hide hl
 have HC:=hide (fun W (hu:Up w W)=>skworld_any (hl.keeps (hu.keeps K)) hh)
 by_cases hv:worldE l home=0∧0≤i∧i<l.length∧withinB t 0 1073741824=true
 · have hE:atW l home i t=placeV (l.getD i.toNat ⟨0,0,[]⟩) t:=by unfold atW;rw [if_pos hv]
   rw [hE]
   obtain ⟨h1,h2,h3,h4⟩:=hv
   obtain ⟨j,rfl⟩:=Int.eq_ofNat_of_zero_le h2
   obtain ⟨b,o,p,ta,tn,tc,rfl,hKb,hbw,hp,hpp,hc0,hc1,hc2,ht⟩:=(Bods.at hl).2.2 j (by omega)
   have hb:=bodyE_zero ((worldE_zero h1).2.2.1 _ (List.mem_of_getElem? hp))
   have htn:=(Vecs.at ht).1
   have hpv:l.getD (j:Int).toNat ⟨0,0,[]⟩=p:=by simp [List.getD,hp]
   have HT:=hide (fun W (hu:Up w W)=>sktrack_any (t:=t) (ht.keeps (hu.keeps K)) (by omega) (by simp [withinB] at h4;omega) (by simp [withinB] at h4;omega))
   rw [hpv]
   rw [h1] at HC
   have hjn:(j:Int)<n:=by omega
   have hjb:decide ((n:Int)≤j)=false:=by simp;omega
   have hj0:decide ((j:Int)<0)=false:=by simp
   unfold placeV
   clear hE hl hn hp hpp hKb ht hb h1 h3 hpv htn
   (unfold Gives;go_enter Tryz.func100,Tryz.ntmps100)
   go_wp2_with (first|(go_at_call 81;refine (HC.out _ Up.go).mono ?_;intro _)|(go_at_call 129;refine (skwithin_any _ _ _ _).mono ?_;intro _)|(go_at_call 136;refine (HT.out _ Up.go).mono ?_;intro _))
   all_goals (refine bodyPost_give Up.go rfl ⟨_,(by simp [results,Tryz.results100,go_sem];rfl),?_⟩)
   all_goals rfl
 · have hE:atW l home i t=(0,0):=by unfold atW;rw [if_neg hv]
   rw [hE]
   rw [← hn] at hv
   by_cases h1:worldE l home=0
   · have hv2:¬ (0≤i∧i<(n:Int)∧withinB t 0 1073741824=true):=fun h=>hv ⟨h1,h⟩
     rw [h1] at HC
     obtain ⟨T,hT⟩:∃ T,withinB t 0 1073741824=T:=⟨_,rfl⟩
     have HW:=hide (fun W=>skwithin_any t 0 1073741824 W)
     rw [hT] at HW hv2
     clear hv hE hl hn h1 hT
     by_cases i0:i<0
     · clear hv2
       (unfold Gives;go_enter Tryz.func100,Tryz.ntmps100)
       go_wp2_with (first|(go_at_call 81;refine (HC.out _ Up.go).mono ?_;intro _)|(go_at_call 129;refine (HW.out _).mono ?_;intro _))
       all_goals (refine bodyPost_give Up.go rfl ⟨_,(by simp [results,Tryz.results100,go_sem];rfl),?_⟩)
       all_goals rfl
     by_cases i1:(n:Int)≤i
     · clear hv2
       (unfold Gives;go_enter Tryz.func100,Tryz.ntmps100)
       go_wp2_with (first|(go_at_call 81;refine (HC.out _ Up.go).mono ?_;intro _)|(go_at_call 129;refine (HW.out _).mono ?_;intro _))
       all_goals (refine bodyPost_give Up.go rfl ⟨_,(by simp [results,Tryz.results100,go_sem];rfl),?_⟩)
       all_goals rfl
     obtain rfl:T=false:=by
      cases T
      · rfl
      · exact absurd ⟨by omega,by omega,rfl⟩ hv2
     clear hv2
     (unfold Gives;go_enter Tryz.func100,Tryz.ntmps100)
     go_wp2_with (first|(go_at_call 81;refine (HC.out _ Up.go).mono ?_;intro _)|(go_at_call 129;refine (HW.out _).mono ?_;intro _))
     all_goals (refine bodyPost_give Up.go rfl ⟨_,(by simp [results,Tryz.results100,go_sem];rfl),?_⟩)
     all_goals rfl
   · have h1b:(worldE l home != 0)=true:=by simp [h1]
     clear hv hE hl hn h1
     (unfold Gives;go_enter Tryz.func100,Tryz.ntmps100)
     go_wp2_with (first|(go_at_call 81;refine (HC.out _ Up.go).mono ?_;intro _)|(go_at_call 129;refine (skwithin_any _ _ _ _).mono ?_;intro _))
     all_goals (refine bodyPost_give Up.go rfl ⟨_,(by simp [results,Tryz.results100,go_sem];rfl),?_⟩)
     all_goals rfl
end Go.Proofs.YteafglginnonnaaGreat
