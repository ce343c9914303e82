/- Searches in lists of places, stations, catalogs; which worlds are valid; where a body is at a tick. Conditions: what lies in memory. -/
import Derived.Test.YtnaiaodnnmhdkaaGreatSkyI
import Derived.Test.YtnaiaodnnmhdkaaGreatSkyP
import Derived.Test.YtnaiaodnnmhdkaaGreatTail
import Derived.Shelf.Abstract
namespace Go.Proofs.YtnaiaodnnmhdkaaGreat
set_option linter.unusedVariables false
set_option linter.unusedSimpArgs false
open Go.RowKit Go.Shelf

/-- the number of the first with F; -1 -/
def firstI {α : Type} (F : α → Bool) (l : List α) : Int := match l.findIdx? F with
  | some i => i
  | none => -1
def noneYet {α : Type} (F : α → Bool) (l : List α) (k : Nat) : Prop := ∀ i p, i < k → l[i]? = some p → F p = false
theorem noneYet.succ {α : Type} {F : α → Bool} {l : List α} {k : Nat} {p : α} (h : noneYet F l k) (hp : l[k]? = some p) (hF : F p = false) : noneYet F l (k + 1) := fun i q hi hq => by
  by_cases hik : i = k
  · subst hik; rw [hp] at hq; cases hq; exact hF
  · exact h i q (by omega) hq
theorem firstI_found {α : Type} {F : α → Bool} {l : List α} {k : Nat} {p : α} (h : noneYet F l k) (hp : l[k]? = some p) (hF : F p = true) : firstI F l = k := by
  unfold firstI
  have : l.findIdx? F = some k := by
    rw [List.findIdx?_eq_some_iff_getElem]
    obtain ⟨hk, he⟩ := List.getElem?_eq_some_iff.1 hp
    refine ⟨hk, by rw [he]; exact hF, fun j hj => ?_⟩
    rw [h j _ hj (List.getElem?_eq_getElem (by omega))]
    simp
  rw [this]
theorem firstI_none {α : Type} {F : α → Bool} {l : List α} (h : noneYet F l l.length) : firstI F l = -1 := by
  unfold firstI
  have : l.findIdx? F = none := by
    rw [List.findIdx?_eq_none_iff]
    intro x hx
    obtain ⟨i, hi, rfl⟩ := List.getElem_of_mem hx
    exact h i _ hi (List.getElem?_eq_getElem hi)
  rw [this]
theorem firstI_ge {α : Type} (F : α → Bool) (l : List α) : decide (0 ≤ firstI F l) = l.any F := by
  unfold firstI
  cases h : l.findIdx? F with
  | none =>
    rw [List.findIdx?_eq_none_iff] at h
    have : l.any F = false := by rw [List.any_eq_false]; intro x hx; rw [h x hx]; simp
    rw [this]; rfl
  | some i =>
    obtain ⟨hi, h1, _⟩ := List.findIdx?_eq_some_iff_getElem.1 h
    have : l.any F = true := List.any_eq_true.2 ⟨_, List.getElem_mem hi, h1⟩
    rw [this]; simp

theorem ixvec_any (g : Nat) (cap : Array Value) (eg : ∀ args w, (callFunc g args).run Tryz.prog w = .ok (.enter g args) w) (F : Int × Int → Bool) {K : Nat → Prop} {a : Option Addr} {n c : Nat} {l : List (Int × Int)} {w : World} (hl : Vecs K w (.slice a n c) l)
    (hF : ∀ p W, p ∈ l → Up w W → Gives Tryz.prog g (#[.agg #[.int .i64 p.1, .int .i64 p.2]] ++ cap) W (.bool (F p))) :
    Gives Tryz.prog 192 #[.slice a n c, .func (.func g) #[] cap] w (.int .i64 (firstI F l)) := by
  have hn := (Vecs.at hl).1
  have hm := (Vecs.at hl).2.1
  have HF := hide (And.intro hF hl)
  have HN := hide hn
  clear hF hl hn
  (unfold Gives; go_enter Tryz.func192, Tryz.ntmps192)
  go_wp2
  go_loopw [8] (fun s8 wr => ∃ k : Nat, k ≤ n ∧ s8 = .int .i64 k ∧ Up w wr ∧ Hid (noneYet F l k)) (fun s8 _ => n - (intOf s8).toNat)
  case atStart => exact ⟨0, by omega, rfl, Up.refl _, hide (fun i p hi _ => by omega)⟩
  case round =>
    obtain ⟨k, hk, rfl, hu, hb⟩ := hrel
    by_cases hlt : k < n
    · obtain ⟨b, o, p, rfl, hKb, hbw, hp, hpp, hc0, hc1⟩ := (Vecs.at (HF.out.2.keeps (hu.keeps K))).2.2 k hlt
      have hkb : decide ((k : Int) < n) = true := by simp; omega
      have HC := hide (HF.out.1 p _ (List.mem_of_getElem? hp) hu)
      have HP := hide hp
      have HU := hide hu
      clear hp hu hpp hKb
      rcases hF : F p with _ | _
      · have HS := hide hF
        rw [hF] at HC
        clear hF
        go_wp2
        refine HC.out.mono ?_
        intro px
        go_wp2
        refine ⟨⟨k + 1, by omega, by go_num, HU.out.ext _, hide (hb.out.succ HP.out HS.out)⟩, by simp [intOf]; omega⟩
      · have HS := hide hF
        rw [hF] at HC
        clear hF
        go_wp2
        refine HC.out.mono ?_
        intro px
        go_wp2
        go_ret
        exact ⟨by rw [firstI_found hb.out HP.out HS.out]; rfl, HU.out.ext _⟩
    · have hkb : decide ((k : Int) < n) = false := by simp; omega
      obtain rfl : k = n := by omega
      go_wp2
      go_ret
      exact ⟨by rw [firstI_none (by rw [← HN.out]; exact hb.out)]; rfl, hu⟩
theorem ixsta_any (g : Nat) (cap : Array Value) (eg : ∀ args w, (callFunc g args).run Tryz.prog w = .ok (.enter g args) w) (F : Int × Int × Int → Bool) {K : Nat → Prop} {a : Option Addr} {n c : Nat} {l : List (Int × Int × Int)} {w : World} (hl : Tris K w (.slice a n c) l)
    (hF : ∀ p W, p ∈ l → Up w W → Gives Tryz.prog g (#[.agg #[.int .i64 p.1, .int .i64 p.2.1, .int .i64 p.2.2]] ++ cap) W (.bool (F p))) :
    Gives Tryz.prog 125 #[.slice a n c, .func (.func g) #[] cap] w (.int .i64 (firstI F l)) := by
  have hn := (Tris.at hl).1
  have hm := (Tris.at hl).2.1
  have HF := hide (And.intro hF hl)
  have HN := hide hn
  clear hF hl hn
  (unfold Gives; go_enter Tryz.func125, Tryz.ntmps125)
  go_wp2
  go_loopw [8] (fun s8 wr => ∃ k : Nat, k ≤ n ∧ s8 = .int .i64 k ∧ Up w wr ∧ Hid (noneYet F l k)) (fun s8 _ => n - (intOf s8).toNat)
  case atStart => exact ⟨0, by omega, rfl, Up.refl _, hide (fun i p hi _ => by omega)⟩
  case round =>
    obtain ⟨k, hk, rfl, hu, hb⟩ := hrel
    by_cases hlt : k < n
    · obtain ⟨b, o, p, rfl, hKb, hbw, hp, hpp, hc0, hc1, hc2⟩ := (Tris.at (HF.out.2.keeps (hu.keeps K))).2.2 k hlt
      have hkb : decide ((k : Int) < n) = true := by simp; omega
      have HC := hide (HF.out.1 p _ (List.mem_of_getElem? hp) hu)
      have HP := hide hp
      have HU := hide hu
      clear hp hu hpp hKb
      rcases hF : F p with _ | _
      · have HS := hide hF
        rw [hF] at HC
        clear hF
        go_wp2
        refine HC.out.mono ?_
        intro px
        go_wp2
        refine ⟨⟨k + 1, by omega, by go_num, HU.out.ext _, hide (hb.out.succ HP.out HS.out)⟩, by simp [intOf]; omega⟩
      · have HS := hide hF
        rw [hF] at HC
        clear hF
        go_wp2
        refine HC.out.mono ?_
        intro px
        go_wp2
        go_ret
        exact ⟨by rw [firstI_found hb.out HP.out HS.out]; rfl, HU.out.ext _⟩
    · have hkb : decide ((k : Int) < n) = false := by simp; omega
      obtain rfl : k = n := by omega
      go_wp2
      go_ret
      exact ⟨by rw [firstI_none (by rw [← HN.out]; exact hb.out)]; rfl, hu⟩
theorem ixcat_any (g : Nat) (cap : Array Value) (eg : ∀ args w, (callFunc g args).run Tryz.prog w = .ok (.enter g args) w) (F : Int × Int × Int → Bool) {K : Nat → Prop} {a : Option Addr} {n c : Nat} {l : List (Int × Int × Int)} {w : World} (hl : Tris K w (.slice a n c) l)
    (hF : ∀ p W, p ∈ l → Up w W → Gives Tryz.prog g (#[.agg #[.int .i64 p.1, .int .i64 p.2.1, .int .i64 p.2.2]] ++ cap) W (.bool (F p))) :
    Gives Tryz.prog 114 #[.slice a n c, .func (.func g) #[] cap] w (.int .i64 (firstI F l)) := by
  have hn := (Tris.at hl).1
  have hm := (Tris.at hl).2.1
  have HF := hide (And.intro hF hl)
  have HN := hide hn
  clear hF hl hn
  (unfold Gives; go_enter Tryz.func114, Tryz.ntmps114)
  go_wp2
  go_loopw [8] (fun s8 wr => ∃ k : Nat, k ≤ n ∧ s8 = .int .i64 k ∧ Up w wr ∧ Hid (noneYet F l k)) (fun s8 _ => n - (intOf s8).toNat)
  case atStart => exact ⟨0, by omega, rfl, Up.refl _, hide (fun i p hi _ => by omega)⟩
  case round =>
    obtain ⟨k, hk, rfl, hu, hb⟩ := hrel
    by_cases hlt : k < n
    · obtain ⟨b, o, p, rfl, hKb, hbw, hp, hpp, hc0, hc1, hc2⟩ := (Tris.at (HF.out.2.keeps (hu.keeps K))).2.2 k hlt
      have hkb : decide ((k : Int) < n) = true := by simp; omega
      have HC := hide (HF.out.1 p _ (List.mem_of_getElem? hp) hu)
      have HP := hide hp
      have HU := hide hu
      clear hp hu hpp hKb
      rcases hF : F p with _ | _
      · have HS := hide hF
        rw [hF] at HC
        clear hF
        go_wp2
        refine HC.out.mono ?_
        intro px
        go_wp2
        refine ⟨⟨k + 1, by omega, by go_num, HU.out.ext _, hide (hb.out.succ HP.out HS.out)⟩, by simp [intOf]; omega⟩
      · have HS := hide hF
        rw [hF] at HC
        clear hF
        go_wp2
        refine HC.out.mono ?_
        intro px
        go_wp2
        go_ret
        exact ⟨by rw [firstI_found hb.out HP.out HS.out]; rfl, HU.out.ext _⟩
    · have hkb : decide ((k : Int) < n) = false := by simp; omega
      obtain rfl : k = n := by omega
      go_wp2
      go_ret
      exact ⟨by rw [firstI_none (by rw [← HN.out]; exact hb.out)]; rfl, hu⟩
theorem anyvec_any (g : Nat) (cap : Array Value) (eg : ∀ args w, (callFunc g args).run Tryz.prog w = .ok (.enter g args) w) (F : Int × Int → Bool) {K : Nat → Prop} {a : Option Addr} {n c : Nat} {l : List (Int × Int)} {w : World} (hl : Vecs K w (.slice a n c) l)
    (hF : ∀ p W, p ∈ l → Up w W → Gives Tryz.prog g (#[.agg #[.int .i64 p.1, .int .i64 p.2]] ++ cap) W (.bool (F p))) :
    Gives Tryz.prog 166 #[.slice a n c, .func (.func g) #[] cap] w (.bool (l.any F)) := by
  have HX := hide (ixvec_any g cap eg F hl hF)
  clear hl hF
  (unfold Gives; go_enter Tryz.func166, Tryz.ntmps166)
  go_wp2_with (go_at_call 192; refine (HX.out).mono ?_; intro _)
  go_ret
  exact ⟨ret_bool (firstI_ge F l), (by repeat (first | with_reducible exact Up.refl _ | with_reducible apply Up.plus | apply Up.ext | apply Up.alloc | apply Up.drew | (refine Up.setCell ?_ (by simp; try omega) _)))⟩
theorem anysta_any (g : Nat) (cap : Array Value) (eg : ∀ args w, (callFunc g args).run Tryz.prog w = .ok (.enter g args) w) (F : Int × Int × Int → Bool) {K : Nat → Prop} {a : Option Addr} {n c : Nat} {l : List (Int × Int × Int)} {w : World} (hl : Tris K w (.slice a n c) l)
    (hF : ∀ p W, p ∈ l → Up w W → Gives Tryz.prog g (#[.agg #[.int .i64 p.1, .int .i64 p.2.1, .int .i64 p.2.2]] ++ cap) W (.bool (F p))) :
    Gives Tryz.prog 62 #[.slice a n c, .func (.func g) #[] cap] w (.bool (l.any F)) := by
  have HX := hide (ixsta_any g cap eg F hl hF)
  clear hl hF
  (unfold Gives; go_enter Tryz.func62, Tryz.ntmps62)
  go_wp2_with (go_at_call 125; refine (HX.out).mono ?_; intro _)
  go_ret
  exact ⟨ret_bool (firstI_ge F l), (by repeat (first | with_reducible exact Up.refl _ | with_reducible apply Up.plus | apply Up.ext | apply Up.alloc | apply Up.drew | (refine Up.setCell ?_ (by simp; try omega) _)))⟩
theorem anycat_any (g : Nat) (cap : Array Value) (eg : ∀ args w, (callFunc g args).run Tryz.prog w = .ok (.enter g args) w) (F : Int × Int × Int → Bool) {K : Nat → Prop} {a : Option Addr} {n c : Nat} {l : List (Int × Int × Int)} {w : World} (hl : Tris K w (.slice a n c) l)
    (hF : ∀ p W, p ∈ l → Up w W → Gives Tryz.prog g (#[.agg #[.int .i64 p.1, .int .i64 p.2.1, .int .i64 p.2.2]] ++ cap) W (.bool (F p))) :
    Gives Tryz.prog 64 #[.slice a n c, .func (.func g) #[] cap] w (.bool (l.any F)) := by
  have HX := hide (ixcat_any g cap eg F hl hF)
  clear hl hF
  (unfold Gives; go_enter Tryz.func64, Tryz.ntmps64)
  go_wp2_with (go_at_call 114; refine (HX.out).mono ?_; intro _)
  go_ret
  exact ⟨ret_bool (firstI_ge F l), (by repeat (first | with_reducible exact Up.refl _ | with_reducible apply Up.plus | apply Up.ext | apply Up.alloc | apply Up.drew | (refine Up.setCell ?_ (by simp; try omega) _)))⟩

theorem skwithin_any (n lo hi : Int) (w : World) : Gives Tryz.prog 84 #[.int .i64 n, .int .i64 lo, .int .i64 hi] w (.bool (withinB n lo hi)) := by
  (unfold Gives; go_enter Tryz.func84, Tryz.ntmps84)
  go_wp2
  all_goals go_ret
  all_goals refine ⟨ret_bool ?_, Up.refl _⟩
  · rename_i h; simp [withinB, h]
  · rename_i h; simp [withinB]; omega
theorem sknear_any (x y m : Int) (m0 : 0 ≤ m) (m1 : m ≤ 9223372036854775807) (w : World) : Gives Tryz.prog 87 #[.agg #[.int .i64 x, .int .i64 y], .int .i64 m] w (.bool (nearV m (x, y))) := by
  (unfold Gives; go_enter Tryz.func87, Tryz.ntmps87)
  go_wp2_with (go_at_call 84; refine (skwithin_any _ _ _ _).mono ?_; intro _)
  all_goals (go_ret; refine ⟨ret_bool ?_, (by repeat (first | with_reducible exact Up.refl _ | with_reducible apply Up.plus | apply Up.ext | apply Up.alloc | apply Up.drew | (refine Up.setCell ?_ (by simp; try omega) _)))⟩)
  all_goals (go_light; first | (simp_all [nearV]; done) | (simp_all [nearV]; omega) | (simp_all [nearV]; repeat' split; all_goals (first | (simp_all; done) | omega | (simp_all; omega))))
theorem skbody1_any (p : Int × Int) (w : World) : Gives Tryz.prog 191 #[.agg #[.int .i64 p.1, .int .i64 p.2]] w (.bool (!nearV 33554432 p)) := by
  (unfold Gives; go_enter Tryz.func191, Tryz.ntmps191)
  go_wp2_with (go_at_call 87; refine (sknear_any _ _ _ (by omega) (by omega) _).mono ?_; intro _)
  go_ret
  exact ⟨rfl, (by repeat (first | with_reducible exact Up.refl _ | with_reducible apply Up.plus | apply Up.ext | apply Up.alloc | apply Up.drew | (refine Up.setCell ?_ (by simp; try omega) _)))⟩
theorem all_of_any {α : Type} (F : α → Bool) (l : List α) : (l.any fun x => !F x) = !(l.all F) := by
  induction l with
  | nil => rfl
  | cons x l ih => simp [ih]
theorem skbody_any {K : Nat → Prop} {w : World} {b : Bod} {ta : Option Addr} {tn tc : Nat} (ht : Vecs K w (.slice ta tn tc) b.track) :
    Gives Tryz.prog 163 #[.agg #[.int .i64 b.mu, .int .i64 b.radius, .slice ta tn tc]] w (.int .i64 (bodyE b)) := by
  have hn := (Vecs.at ht).1
  have hm := (Vecs.at ht).2.1
  have HX := hide (fun W (hu : Up w W) => anyvec_any 191 #[] (enters_of Tryz.func191 (by kernel_rfl) rfl) (fun p => !nearV 33554432 p) (ht.keeps (hu.keeps K)) (fun p W _ _ => skbody1_any p W))
  rw [all_of_any] at HX
  have hE : bodyE b = if (withinB b.mu 0 1125899906842624 && withinB b.radius 0 1048576) = false then 2
    else if tn = 0 then 6 else if 4096 < tn then 8 else if b.track.all (nearV 33554432) = false then 2 else 0 := by unfold bodyE; rw [← hn]
  rw [hE]
  clear hE hn ht
  obtain ⟨T, hT⟩ : ∃ T, b.track.all (nearV 33554432) = T := ⟨_, rfl⟩
  rw [hT] at HX
  rw [hT]
  clear hT
  (unfold Gives; go_enter Tryz.func163, Tryz.ntmps163)
  go_wp2_with (first | (go_at_call 84; refine (skwithin_any _ _ _ _).mono ?_; intro _) | (go_at_call 166; refine (HX.out _ (by repeat (first | with_reducible exact Up.refl _ | with_reducible apply Up.plus | apply Up.ext | apply Up.alloc | apply Up.drew | (refine Up.setCell ?_ (by simp; try omega) _)))).mono ?_; intro _))
  all_goals (go_ret; refine ⟨ret_int ?_, (by repeat (first | with_reducible exact Up.refl _ | with_reducible apply Up.plus | apply Up.ext | apply Up.alloc | apply Up.drew | (refine Up.setCell ?_ (by simp; try omega) _)))⟩)
  all_goals (go_light; simp_all)
end Go.Proofs.YtnaiaodnnmhdkaaGreat
