/- Several texts in one. -/
import Derived.Test.YtnaiaodnnmhdkaaGreatRaw
import Derived.Test.YtnaiaodnnmhdkaaGreatVR
import Derived.JoinedOf
import Derived.JoinedAt
import Derived.Test.YtnaiaodnnmhdkaaGreatSkyB
/- Sets and offers that came in; whether a watch is greater than the statements cover. Conditions: what lies in memory. -/
namespace Go.Proofs.YtnaiaodnnmhdkaaGreat
set_option linter.unusedVariables false
set_option linter.unusedSimpArgs false
open Go.RowKit Go.ChangeShapes Go.WideShapes Go.Shelf

theorem box_cells : Tryz.prog.cellsOf 91 = 8 := by kernel_rfl
theorem span_cells2 : Tryz.prog.cellsOf 38 = 2 := by kernel_rfl
section
open Go.Joins
variable {H : Type} {enc : TypeId × Value → H} {W : World} {sp : Nat → Bool} {held : Bool}
set_option maxRecDepth 100000 in
theorem elem_rbox : ∀ n cs y, DataW.trod enc Tryz.prog W 0 sp held n 91 cs = some y → ∃ x, TBox.r W x cs := fun n cs y h => by
  obtain ⟨xs, m, _, rfl, hl, hlen, hf⟩ := DataW.trod_struct Tryz.underlying91 h
  rw [box_cells] at hl
  match cs, hl with
  | [c0, c1, c2, c3, c4, c5, c6, c7], _ =>
    have h0 := hf 0 _ rfl
    have h1 := hf 1 _ rfl
    have h2 := hf 2 _ rfl
    have h3 := hf 3 _ rfl
    match xs, hlen with
    | [y0, y1, y2, y3], _ =>
      simp only [List.getElem?_cons_zero, List.getElem?_cons_succ] at h0 h1 h2 h3
      simp [span_cells2] at h0 h1 h2 h3
      obtain ⟨x0, x1, rfl, rfl, _⟩ := trod_span h0
      obtain ⟨x2, x3, rfl, rfl, _⟩ := trod_span h1
      obtain ⟨x4, x5, rfl, rfl, _⟩ := trod_span h2
      obtain ⟨x6, x7, rfl, rfl, _⟩ := trod_span h3
      exact ⟨⟨x0, x1, x2, x3, x4, x5, x6, x7⟩, rfl⟩
set_option maxRecDepth 100000 in
theorem elem_roff : ∀ n cs y, DataW.trod enc Tryz.prog W 0 sp held n 32 cs = some y → ∃ x, TOff.r W x cs := fun n cs y h => by
  obtain ⟨xs, m, _, rfl, hl, hlen, hf⟩ := DataW.trod_struct Tryz.underlying32 h
  rw [offer_cells] at hl
  match cs, hl with
  | [c0, c1, c2, c3, c4, c5, c6, c7, c8, c9, c10], _ =>
    have h0 := hf 0 _ rfl
    have h1 := hf 1 _ rfl
    have h2 := hf 2 _ rfl
    have h3 := hf 3 _ rfl
    have h4 := hf 4 _ rfl
    have h5 := hf 5 _ rfl
    have h6 := hf 6 _ rfl
    have h7 := hf 7 _ rfl
    have h8 := hf 8 _ rfl
    have h9 := hf 9 _ rfl
    match xs, hlen with
    | [y0, y1, y2, y3, y4, y5, y6, y7, y8, y9], _ =>
      simp only [List.getElem?_cons_zero, List.getElem?_cons_succ] at h0 h1 h2 h3 h4 h5 h6 h7 h8 h9
      simp [intt_cells, ints_cells, vec_cells, bool_cells] at h0 h1 h2 h3 h4 h5 h6 h7 h8 h9
      obtain ⟨a0, e0, _, _⟩ := DataW.trod_int Tryz.underlying3 h0
      obtain ⟨a1, e1, _, _⟩ := DataW.trod_int Tryz.underlying3 h1
      obtain ⟨a2, e2, _, _⟩ := DataW.trod_int Tryz.underlying3 h2
      obtain ⟨a3, e3, _, _⟩ := DataW.trod_int Tryz.underlying2 h3
      obtain ⟨p4, e4, _, _⟩ := elem_vec _ _ _ h4
      obtain ⟨a5, e5, _, _⟩ := DataW.trod_int Tryz.underlying2 h5
      obtain ⟨a6, e6, _, _⟩ := DataW.trod_int Tryz.underlying2 h6
      obtain ⟨a7, e7, _, _⟩ := DataW.trod_int Tryz.underlying2 h7
      obtain ⟨a8, e8, _, _⟩ := DataW.trod_int Tryz.underlying3 h8
      obtain ⟨a9, e9, _⟩ := DataW.trod_bool Tryz.underlying4 h9
      simp at e0 e1 e2 e3 e4 e5 e6 e7 e8 e9
      obtain ⟨f4, g4⟩ := e4
      subst e0 e1 e2 e3 f4 g4 e5 e6 e7 e8 e9
      exact ⟨⟨a0, a1, a2, a3, p4.1, p4.2, a5, a6, a7, a8, a9⟩, rfl⟩
set_option maxRecDepth 100000 in
theorem open_boxes {b0 : Nat} {r : Reach} {v : Value} {d : DataW H} {p : List MemPlace} (hv : Value.okWide Tryz.prog W r b0 69 v) (h : DataW.Trod enc Tryz.prog W 0 (fun _ => true) true 69 v d p) :
    ∃ (l : List BoxD) (a : Option Addr) (n c : Nat), v = .slice a n c ∧ Boxes (fun b => b < W.heap.size) W (.slice a n c) l := by
  obtain ⟨a0, len, cap, rfl⟩ := okWide_slice Tryz.underlying69 hv
  obtain ⟨fuel, hf⟩ := h
  obtain ⟨l, hl⟩ := open_lies (k := 8) (R := TBox.r) (v := .slice a0 len cap) Tryz.underlying69 box_cells (by omega) elem_rbox (by simpa [Value.cells] using hf)
  exact ⟨l, a0, len, cap, rfl, hl⟩
set_option maxRecDepth 100000 in
theorem open_offers {b0 : Nat} {r : Reach} {v : Value} {d : DataW H} {p : List MemPlace} (hv : Value.okWide Tryz.prog W r b0 70 v) (h : DataW.Trod enc Tryz.prog W 0 (fun _ => true) true 70 v d p) :
    ∃ (l : List OffD) (a : Option Addr) (n c : Nat), v = .slice a n c ∧ Lst TOff (fun b => b < W.heap.size) W (.slice a n c) l := by
  obtain ⟨a0, len, cap, rfl⟩ := okWide_slice Tryz.underlying70 hv
  obtain ⟨fuel, hf⟩ := h
  obtain ⟨l, hl⟩ := open_lies (k := 11) (R := TOff.r) (v := .slice a0 len cap) Tryz.underlying70 offer_cells (by omega) elem_roff (by simpa [Value.cells] using hf)
  exact ⟨l, a0, len, cap, rfl, hl⟩
end
set_option maxRecDepth 100000 in
set_option maxHeartbeats 8000000 in
theorem wbig_any {K : Nat → Prop} {w : World} {a sa ca : Option Addr} {n c sn sc cn cc : Nat} {s : SkyD} {home : Int} (hL : SkyL K w a n c sa sn sc ca cn cc s) (ba : Option Addr) (bn bc : Nat) (oa : Option Addr) (on oc : Nat) (hb : bn ≤ 9223372036854775807) (ho : on ≤ 9223372036854775807) :
    Calls Tryz.prog 33 #[.agg #[.slice a n c, .int .i64 home, .slice sa sn sc, .slice ca cn cc], .slice ba bn bc, .slice oa on oc] w fun e W => ∃ (b : Bool) (p : Ext), e = .returned (.bool b) ∧ W = ext w p ∧ Hid (b = false → bn ≤ 101) := by
  have HB := hide (fun W (hu : Up w W) => bigsky_any (home := home) (hL.up hu))
  clear hL
  go_enter Tryz.func33, Tryz.ntmps33
  go_wp2_with fail
  go_at_call 12
  refine (HB.out _ (by repeat (first | with_reducible exact Up.refl _ | with_reducible apply Up.plus | apply Up.ext | apply Up.alloc | apply Up.drew | (refine Up.setCell ?_ (by simp; try omega) _)))).mono ?_
  rintro _ _ ⟨b, q, rfl, rfl⟩
  cases b
  rotate_left
  · go_wp2
    refine forgetW (fun WF => Up w WF) (by repeat (first | with_reducible exact Up.refl _ | with_reducible apply Up.plus | apply Up.ext | apply Up.alloc | apply Up.drew | (refine Up.setCell ?_ (by simp; try omega) _))) ?_
    rintro WF ⟨p, hp⟩
    exact bodyPost_ret (v := .bool true) (by simp [results, Tryz.results33, go_sem]) rfl ⟨true, p, rfl, hp, hide (fun h => by cases h)⟩
  by_cases h3 : 101 < bn
  · have d3 : decide ((101 : Int) < bn) = true := by simp; omega
    have d1 : decide ((12 : Int) < bn) = true := by simp; omega
    have d2 : decide ((bn : Int) < 100) = false := by simp; omega
    have d4 : decide (bn < 100) = false := by simp; omega
    go_wp2
    refine forgetW (fun WF => Up w WF) (by repeat (first | with_reducible exact Up.refl _ | with_reducible apply Up.plus | apply Up.ext | apply Up.alloc | apply Up.drew | (refine Up.setCell ?_ (by simp; try omega) _))) ?_
    rintro WF ⟨p, hp⟩
    exact bodyPost_ret (v := .bool true) (by simp [results, Tryz.results33, go_sem]) rfl ⟨true, p, rfl, hp, hide (fun h => by cases h)⟩
  have d3 : decide ((101 : Int) < bn) = false := by simp; omega
  have HF := hide (show bn ≤ 101 by omega)
  have fin : ∀ (B : Bool) (e : Ending) (W : World), e = .returned (.bool B) → Up w W → ∃ (b : Bool) (p : Ext), e = .returned (.bool b) ∧ W = ext w p ∧ Hid (b = false → bn ≤ 101) := fun B e W he ⟨p, hp⟩ => ⟨B, p, he, hp, hide (fun _ => HF.out)⟩
  by_cases h1 : 12 < bn
  · have d1 : decide ((12 : Int) < bn) = true := by simp; omega
    by_cases h2 : bn < 100
    · have d2 : decide ((bn : Int) < 100) = true := by simp; omega
      have d4 : decide (bn < 100) = true := by simp; omega
      go_wp2
      refine forgetW (fun WF => Up w WF) (by repeat (first | with_reducible exact Up.refl _ | with_reducible apply Up.plus | apply Up.ext | apply Up.alloc | apply Up.drew | (refine Up.setCell ?_ (by simp; try omega) _))) ?_
      rintro WF hu
      exact bodyPost_ret (v := .bool true) (by simp [results, Tryz.results33, go_sem]) rfl (fin _ _ _ rfl hu)
    · have d2 : decide ((bn : Int) < 100) = false := by simp; omega
      have d4 : decide (bn < 100) = false := by simp; omega
      go_wp2
      all_goals
        refine forgetW (fun WF => Up w WF) (by repeat (first | with_reducible exact Up.refl _ | with_reducible apply Up.plus | apply Up.ext | apply Up.alloc | apply Up.drew | (refine Up.setCell ?_ (by simp; try omega) _))) ?_
        rintro WF hu
        exact bodyPost_ret (v := .bool _) (by simp [results, Tryz.results33, go_sem]; rfl) rfl (fin _ _ _ rfl hu)
  · have d1 : decide ((12 : Int) < bn) = false := by simp; omega
    go_wp2
    all_goals
      refine forgetW (fun WF => Up w WF) (by repeat (first | with_reducible exact Up.refl _ | with_reducible apply Up.plus | apply Up.ext | apply Up.alloc | apply Up.drew | (refine Up.setCell ?_ (by simp; try omega) _))) ?_
      rintro WF hu
      exact bodyPost_ret (v := .bool _) (by simp [results, Tryz.results33, go_sem]; rfl) rfl (fin _ _ _ rfl hu)
end Go.Proofs.YtnaiaodnnmhdkaaGreat

/- Which worlds are valid, and where a body is at a tick: the reference's. Conditions: what lies in memory. -/
namespace Go.Proofs.YtnaiaodnnmhdkaaGreat
set_option linter.unusedVariables false
set_option linter.unusedSimpArgs false
open Go.RowKit Go.Shelf

theorem sbetween_any (n lo hi : Int) (w : World) : Gives Tryz.prog 127 #[.int .i64 n, .int .i64 lo, .int .i64 hi] w (.bool (withinB n lo hi)) := by
  (unfold Gives; go_enter Tryz.func127, Tryz.ntmps127)
  go_wp2
  all_goals go_ret
  all_goals refine ⟨ret_bool ?_, Up.refl _⟩
  · rename_i h; simp [withinB, h]
  · rename_i h; simp [withinB]; omega
theorem snear_any (x y : Int) (w : World) : Gives Tryz.prog 69 #[.agg #[.int .i64 x, .int .i64 y]] w (.bool (nearV 33554432 (x, y))) := by
  (unfold Gives; go_enter Tryz.func69, Tryz.ntmps69)
  go_wp2_with (go_at_call 127; refine (sbetween_any _ _ _ _).mono ?_; intro _)
  all_goals (go_ret; refine ⟨ret_bool ?_, (by repeat (first | with_reducible exact Up.refl _ | with_reducible apply Up.plus | apply Up.ext | apply Up.alloc | apply Up.drew | (refine Up.setCell ?_ (by simp; try omega) _)))⟩)
  all_goals (go_light; first | (simp_all [nearV]; done) | (simp_all [nearV]; omega) | (simp_all [nearV]; repeat' split; all_goals (first | (simp_all; done) | omega | (simp_all; omega))))

theorem all_none {l : List (Int × Int)} (h : noneYet (fun p => !nearV 33554432 p) l l.length) : l.all (nearV 33554432) = true := by
  rw [List.all_eq_true]
  intro x hx
  obtain ⟨i, hi, rfl⟩ := List.getElem_of_mem hx
  have := h i _ hi (List.getElem?_eq_getElem hi)
  simpa using this
theorem all_found {l : List (Int × Int)} {k : Nat} {p : Int × Int} (hp : l[k]? = some p) (h : nearV 33554432 p = false) : l.all (nearV 33554432) = false := by
  rw [List.all_eq_false]
  exact ⟨p, List.mem_of_getElem? hp, by rw [h]; simp⟩

theorem sbody_any {K : Nat → Prop} {w : World} {b : Bod} {ta : Option Addr} {tn tc : Nat} (ht : Vecs K w (.slice ta tn tc) b.track) :
    Gives Tryz.prog 164 #[.agg #[.int .i64 b.mu, .int .i64 b.radius, .slice ta tn tc]] w (.int .i64 (bodyE b)) := by
  have hn := (Vecs.at ht).1
  have hm := (Vecs.at ht).2.1
  have hE : bodyE b = if (withinB b.mu 0 1125899906842624 && withinB b.radius 0 1048576) = false then 2
    else if tn = 0 then 6 else if 4096 < tn then 8 else if b.track.all (nearV 33554432) = false then 2 else 0 := by unfold bodyE; rw [← hn]
  rw [hE]
  clear hE
  by_cases h1 : (withinB b.mu 0 1125899906842624 && withinB b.radius 0 1048576) = false
  · rw [if_pos h1]
    clear ht hn
    rw [Bool.and_eq_false_iff] at h1
    rcases h1 with h1 | h1
    · (unfold Gives; go_enter Tryz.func164, Tryz.ntmps164)
      go_wp2_with (go_at_call 127; refine (sbetween_any _ _ _ _).mono ?_; intro _)
      go_ret
      exact ⟨rfl, (by repeat (first | with_reducible exact Up.refl _ | with_reducible apply Up.plus | apply Up.ext | apply Up.alloc | apply Up.drew | (refine Up.setCell ?_ (by simp; try omega) _)))⟩
    · (unfold Gives; go_enter Tryz.func164, Tryz.ntmps164)
      go_wp2_with (go_at_call 127; refine (sbetween_any _ _ _ _).mono ?_; intro _)
      all_goals go_ret
      all_goals exact ⟨rfl, (by repeat (first | with_reducible exact Up.refl _ | with_reducible apply Up.plus | apply Up.ext | apply Up.alloc | apply Up.drew | (refine Up.setCell ?_ (by simp; try omega) _)))⟩
  rw [if_neg h1]
  simp only [Bool.not_eq_false, Bool.and_eq_true] at h1
  obtain ⟨h1, h2⟩ := h1
  by_cases h0 : tn = 0
  · rw [if_pos h0]
    subst h0
    clear ht hn
    (unfold Gives; go_enter Tryz.func164, Tryz.ntmps164)
    go_wp2_with (go_at_call 127; refine (sbetween_any _ _ _ _).mono ?_; intro _)
    go_ret
    exact ⟨rfl, (by repeat (first | with_reducible exact Up.refl _ | with_reducible apply Up.plus | apply Up.ext | apply Up.alloc | apply Up.drew | (refine Up.setCell ?_ (by simp; try omega) _)))⟩
  rw [if_neg h0]
  have h0b : ((tn : Int) == 0) = false := by simp; omega
  by_cases h4 : 4096 < tn
  · rw [if_pos h4]
    clear ht hn
    (unfold Gives; go_enter Tryz.func164, Tryz.ntmps164)
    go_wp2_with (go_at_call 127; refine (sbetween_any _ _ _ _).mono ?_; intro _)
    go_ret
    exact ⟨rfl, (by repeat (first | with_reducible exact Up.refl _ | with_reducible apply Up.plus | apply Up.ext | apply Up.alloc | apply Up.drew | (refine Up.setCell ?_ (by simp; try omega) _)))⟩
  rw [if_neg h4]
  have HL := hide (And.intro ht hn)
  obtain ⟨V, hV⟩ : ∃ V : Int, (if b.track.all (nearV 33554432) = false then 2 else 0) = V := ⟨_, rfl⟩
  rw [hV]
  have HV := hide hV
  clear ht hn hV
  (unfold Gives; go_enter Tryz.func164, Tryz.ntmps164)
  go_wp2_with (go_at_call 127; refine (sbetween_any _ _ _ _).mono ?_; intro _)
  go_loopw [3] (fun s wr => ∃ k : Nat, k ≤ tn ∧ s = .int .i64 k ∧ Up (w.alloc (.cells #[.int .i64 b.mu, .int .i64 b.radius, .slice ta tn tc] 153)) wr ∧ Hid (noneYet (fun p => !nearV 33554432 p) b.track k)) (fun s _ => tn - (intOf s).toNat)
  case atStart => exact ⟨0, by omega, rfl, (by repeat (first | with_reducible exact Up.refl _ | with_reducible apply Up.plus | apply Up.ext | apply Up.alloc | apply Up.drew | (refine Up.setCell ?_ (by simp; try omega) _))), hide (fun i p hi _ => by omega)⟩
  case round =>
    obtain ⟨k, hk, rfl, hu, hb⟩ := hrel
    have hu2 : Up w wr := ((Up.refl w).alloc _).trans hu
    have hbx : Box wr w.heap.size #[.int .i64 b.mu, .int .i64 b.radius, .slice ta tn tc] 153 := (Box.mk rfl).up hu
    have c2 := hbx.cell 2 rfl
    by_cases hlt : k < tn
    · obtain ⟨b', o, p, rfl, hKb, hbw, hp, hpp, hc0, hc1⟩ := (Vecs.at (HL.out.1.keeps (hu2.keeps K))).2.2 k hlt
      have hkb : decide ((k : Int) < tn) = true := by simp; omega
      have HP := hide (And.intro hp (And.intro hu hu2))
      obtain ⟨p1, p2⟩ := p
      dsimp only at hc0 hc1
      clear hp hu hu2 hpp hKb hbx
      rcases hF : nearV 33554432 (p1, p2) with _ | _
      · go_wp2_with (go_at_call 69; refine (snear_any _ _ _).mono ?_; intro _)
        go_ret
        refine ⟨ret_int ?_, HP.out.2.2.trans (by repeat (first | with_reducible exact Up.refl _ | with_reducible apply Up.plus | apply Up.ext | apply Up.alloc | apply Up.drew | (refine Up.setCell ?_ (by simp; try omega) _)))⟩
        rw [← HV.out, if_pos (all_found HP.out.1 hF)]
      · go_wp2_with (go_at_call 69; refine (snear_any _ _ _).mono ?_; intro _)
        refine ⟨⟨k + 1, by omega, by go_num, HP.out.2.1.trans (by repeat (first | with_reducible exact Up.refl _ | with_reducible apply Up.plus | apply Up.ext | apply Up.alloc | apply Up.drew | (refine Up.setCell ?_ (by simp; try omega) _))), hide (hb.out.succ HP.out.1 (by rw [hF]; rfl))⟩, by simp [intOf]; omega⟩
    · have hkb : decide ((k : Int) < tn) = false := by simp; omega
      obtain rfl : k = tn := by omega
      have HU := hide hu2
      clear hu hu2 hbx
      go_wp2
      go_ret
      refine ⟨ret_int ?_, HU.out.trans (by repeat (first | with_reducible exact Up.refl _ | with_reducible apply Up.plus | apply Up.ext | apply Up.alloc | apply Up.drew | (refine Up.setCell ?_ (by simp; try omega) _)))⟩
      rw [← HV.out, if_neg (by rw [all_none (by rw [← HL.out.2]; exact hb.out)]; simp)]

theorem sworld_any {K : Nat → Prop} {w : World} {a : Option Addr} {n c : Nat} {l : List Bod} {home : Int} (hl : Bods K w (.slice a n c) l) (hh : I64 home) :
    Gives Tryz.prog 126 #[.agg #[.slice a n c, .int .i64 home]] w (.int .i64 (worldE l home)) := by
  have hn := (Bods.at hl).1
  have hm := (Bods.at hl).2.1
  obtain ⟨hh0, hh1⟩ := hh
  by_cases z0 : n = 0
  · have hE : worldE l home = 6 := by unfold worldE; rw [if_pos (by omega)]
    rw [hE]
    clear hE hl hn
    subst z0
    (unfold Gives; go_enter Tryz.func126, Tryz.ntmps126)
    go_wp2
    go_ret
    exact ⟨rfl, (by repeat (first | with_reducible exact Up.refl _ | with_reducible apply Up.plus | apply Up.ext | apply Up.alloc | apply Up.drew | (refine Up.setCell ?_ (by simp; try omega) _)))⟩
  by_cases z8 : 8 < n
  · have hE : worldE l home = 8 := by unfold worldE; rw [if_neg (by omega), if_pos (by omega)]
    rw [hE]
    clear hE hl hn
    have hb0 : ((n : Int) == 0) = false := by simp; omega
    (unfold Gives; go_enter Tryz.func126, Tryz.ntmps126)
    go_wp2
    go_ret
    exact ⟨rfl, (by repeat (first | with_reducible exact Up.refl _ | with_reducible apply Up.plus | apply Up.ext | apply Up.alloc | apply Up.drew | (refine Up.setCell ?_ (by simp; try omega) _)))⟩
  have hE : worldE l home = if firstE bodyE l = 0 then (if home < 0 ∨ (n : Int) ≤ home then 7 else 0) else firstE bodyE l := by unfold worldE; rw [if_neg (by omega), if_neg (by omega), hn]
  have HE := hide hE
  have HN := hide hn
  have HL := hide hl
  have hb0 : ((n : Int) == 0) = false := by simp; omega
  clear hE hn hl
  (unfold Gives; go_enter Tryz.func126, Tryz.ntmps126)
  go_wp2
  go_loopw [3] (fun s wr => ∃ k : Nat, k ≤ n ∧ s = .int .i64 k ∧ Up (w.alloc (.cells #[.slice a n c, .int .i64 home] 24)) wr ∧ Hid (noneYet (fun x => bodyE x != 0) l k)) (fun s _ => n - (intOf s).toNat)
  case atStart => exact ⟨0, by omega, rfl, Up.refl _, hide (fun i p hi _ => by omega)⟩
  case round =>
    obtain ⟨k, hk, rfl, hu, hb⟩ := hrel
    have hu2 : Up w wr := ((Up.refl w).alloc _).trans hu
    have hbx : Box wr w.heap.size #[.slice a n c, .int .i64 home] 24 := (Box.mk rfl).up hu
    have c0 := hbx.cell 0 rfl
    have c1 := hbx.cell 1 rfl
    by_cases hlt : k < n
    · obtain ⟨b, o, p, ta, tn, tc, rfl, hKb, hbw, hp, hpp, hc0, hc1, hc2, ht⟩ := (Bods.at (HL.out.keeps (hu2.keeps K))).2.2 k hlt
      have hkb : decide ((k : Int) < n) = true := by simp; omega
      have HP := hide (And.intro hp (And.intro hu hu2))
      have HT := hide ht
      clear hp hu hu2 hpp hKb ht hbx
      by_cases hF : bodyE p = 0
      · have hF' : (bodyE p != 0) = false := by simp [hF]
        have HS := hide hF
        clear hF
        go_wp2_with (go_at_call 164; refine (sbody_any (HT.out.keeps (Up.keeps (by repeat (first | with_reducible exact Up.refl _ | with_reducible apply Up.plus | apply Up.ext | apply Up.alloc | apply Up.drew | (refine Up.setCell ?_ (by simp; try omega) _))) K))).mono ?_; intro _)
        refine ⟨⟨k + 1, by omega, by go_num, HP.out.2.1.trans (by repeat (first | with_reducible exact Up.refl _ | with_reducible apply Up.plus | apply Up.ext | apply Up.alloc | apply Up.drew | (refine Up.setCell ?_ (by simp; try omega) _))), hide (hb.out.succ HP.out.1 (by simpa using HS.out))⟩, by simp [intOf]; omega⟩
      · have hF' : (bodyE p != 0) = true := by simp [hF]
        have HS := hide hF
        clear hF
        go_wp2_with (go_at_call 164; refine (sbody_any (HT.out.keeps (Up.keeps (by repeat (first | with_reducible exact Up.refl _ | with_reducible apply Up.plus | apply Up.ext | apply Up.alloc | apply Up.drew | (refine Up.setCell ?_ (by simp; try omega) _))) K))).mono ?_; intro _)
        go_ret
        refine ⟨ret_int ?_, HP.out.2.2.trans (by repeat (first | with_reducible exact Up.refl _ | with_reducible apply Up.plus | apply Up.ext | apply Up.alloc | apply Up.drew | (refine Up.setCell ?_ (by simp; try omega) _)))⟩
        rw [HE.out, firstE_found hb.out HP.out.1 HS.out, if_neg HS.out]
    · have hkb : decide ((k : Int) < n) = false := by simp; omega
      obtain rfl : k = n := by omega
      have hE2 : worldE l home = if home < 0 ∨ (k : Int) ≤ home then 7 else 0 := by rw [HE.out, firstE_none (by rw [← HN.out]; exact hb.out), if_pos rfl]
      have HE2 := hide hE2
      have HU := hide hu2
      clear hu hu2 hbx hE2
      go_wp2
      all_goals (go_ret; refine ⟨ret_int ?_, HU.out.trans (by repeat (first | with_reducible exact Up.refl _ | with_reducible apply Up.plus | apply Up.ext | apply Up.alloc | apply Up.drew | (refine Up.setCell ?_ (by simp; try omega) _)))⟩; rw [HE2.out])
      all_goals (go_light; simp_all)

/-- the place of body j of a valid world -/
theorem sat_any {K : Nat → Prop} {w : World} {a : Option Addr} {n c j : Nat} {l : List Bod} {home t : Int} {p : Bod} (hl : Bods K w (.slice a n c) l) (hp : l[j]? = some p) (hb : bodyE p = 0) (t0 : 0 ≤ t) (t1 : t ≤ 9223372036854775807) :
    Gives Tryz.prog 172 #[.agg #[.slice a n c, .int .i64 home], .int .i64 j, .int .i64 t] w (.agg #[.int .i64 (placeV p t).1, .int .i64 (placeV p t).2]) := by
  have hn := (Bods.at hl).1
  have hm := (Bods.at hl).2.1
  have hjn : j < n := by rw [hn]; exact (List.getElem?_eq_some_iff.1 hp).1
  obtain ⟨b, o, p', ta, tn, tc, rfl, hKb, hbw, hp', hpp, hc0, hc1, hc2, ht⟩ := (Bods.at hl).2.2 j hjn
  rw [hp] at hp'
  cases hp'
  have hbb := bodyE_zero hb
  have htn := (Vecs.at ht).1
  have htm := (Vecs.at ht).2.1
  obtain ⟨i, hi, hin⟩ : ∃ i : Nat, t % (tn : Int) = i ∧ i < tn := by
    have h1 := Int.emod_nonneg t (show (tn : Int) ≠ 0 by omega)
    have h2 := Int.emod_lt_of_pos t (show (0 : Int) < tn by omega)
    obtain ⟨i, hi⟩ := Int.eq_ofNat_of_zero_le h1
    exact ⟨i, hi, by omega⟩
  obtain ⟨tb, tq, q, rfl, hKt, htw, hq, hqq, hd0, hd1⟩ := (Vecs.at ht).2.2 i hin
  have hv : placeV p t = q := by unfold placeV; rw [← htn, hi]; simp [List.getD, hq]
  rw [hv]
  have i0 : (0 : Int) ≤ (i : Int) := by omega
  have i1 : (i : Int) < tn := by omega
  have j0 : (0 : Int) ≤ (j : Int) := by omega
  have j1 : (j : Int) < n := by omega
  have htp : 0 < tn := by omega
  clear hl hn hp hbb htn ht hq hqq hv hpp hKb hKt hb
  (unfold Gives; go_enter Tryz.func172, Tryz.ntmps172)
  go_wp2
  all_goals (refine bodyPost_give (by repeat (first | with_reducible exact Up.refl _ | with_reducible apply Up.plus | apply Up.ext | apply Up.alloc | apply Up.drew | (refine Up.setCell ?_ (by simp; try omega) _))) rfl ⟨_, (by simp [results, Tryz.results172, go_sem]; rfl), ?_⟩)
  all_goals rfl

theorem sAt_any {K : Nat → Prop} {w : World} {a : Option Addr} {n c : Nat} {l : List Bod} {home : Int} (hl : Bods K w (.slice a n c) l) (hh : I64 home) (i t : Int) :
    Gives Tryz.prog 136 #[.agg #[.slice a n c, .int .i64 home], .int .i64 i, .int .i64 t] w (.agg #[.int .i64 (atW l home i t).1, .int .i64 (atW l home i t).2]) := by
  have hn := (Bods.at hl).1
  have hm := (Bods.at hl).2.1
  have HL := hide hl
  have HC := hide (fun W (hu : Up w W) => sworld_any (hl.keeps (hu.keeps K)) hh)
  by_cases hv : worldE l home = 0 ∧ 0 ≤ i ∧ i < l.length ∧ withinB t 0 1073741824 = true
  · have hE : atW l home i t = placeV (l.getD i.toNat ⟨0, 0, []⟩) t := by unfold atW; rw [if_pos hv]
    rw [hE]
    obtain ⟨h1, h2, h3, h4⟩ := hv
    obtain ⟨j, rfl⟩ := Int.eq_ofNat_of_zero_le h2
    have hp : l[j]? = some l[j] := List.getElem?_eq_getElem (by omega)
    have hpv : l.getD (j : Int).toNat ⟨0, 0, []⟩ = l[j] := by simp [List.getD, hp]
    rw [hpv]
    have HT := hide (fun W (hu : Up w W) => sat_any (home := home) (t := t) (hl.keeps (hu.keeps K)) hp ((worldE_zero h1).2.2.1 _ (List.mem_of_getElem? hp)) (by simp [withinB] at h4; omega) (by simp [withinB] at h4; omega))
    generalize placeV l[j] t = P at *
    rw [h1] at HC
    have hjn : (j : Int) < n := by omega
    have hjb : decide ((n : Int) ≤ j) = false := by simp; omega
    have hj0 : decide ((j : Int) < 0) = false := by simp
    clear hE hl hn hp h1 h3 hpv HL
    (unfold Gives; go_enter Tryz.func136, Tryz.ntmps136)
    go_wp2_with (first | (go_at_call 126; refine (HC.out _ (by repeat (first | with_reducible exact Up.refl _ | with_reducible apply Up.plus | apply Up.ext | apply Up.alloc | apply Up.drew | (refine Up.setCell ?_ (by simp; try omega) _)))).mono ?_; intro _) | (go_at_call 127; refine (sbetween_any _ _ _ _).mono ?_; intro _) | (go_at_call 172; refine (HT.out _ (by repeat (first | with_reducible exact Up.refl _ | with_reducible apply Up.plus | apply Up.ext | apply Up.alloc | apply Up.drew | (refine Up.setCell ?_ (by simp; try omega) _)))).mono ?_; intro _))
    all_goals (refine bodyPost_give (by repeat (first | with_reducible exact Up.refl _ | with_reducible apply Up.plus | apply Up.ext | apply Up.alloc | apply Up.drew | (refine Up.setCell ?_ (by simp; try omega) _))) rfl ⟨_, (by simp [results, Tryz.results136, go_sem]; rfl), ?_⟩)
    all_goals rfl
  · have hE : atW l home i t = (0, 0) := by unfold atW; rw [if_neg hv]
    rw [hE]
    rw [← hn] at hv
    by_cases h1 : worldE l home = 0
    · have hv2 : ¬ (0 ≤ i ∧ i < (n : Int) ∧ withinB t 0 1073741824 = true) := fun h => hv ⟨h1, h⟩
      rw [h1] at HC
      obtain ⟨T, hT⟩ : ∃ T, withinB t 0 1073741824 = T := ⟨_, rfl⟩
      have HW := hide (fun W => sbetween_any t 0 1073741824 W)
      rw [hT] at HW hv2
      clear hv hE hl hn h1 hT HL
      by_cases i0 : i < 0
      · clear hv2
        (unfold Gives; go_enter Tryz.func136, Tryz.ntmps136)
        go_wp2_with (first | (go_at_call 126; refine (HC.out _ (by repeat (first | with_reducible exact Up.refl _ | with_reducible apply Up.plus | apply Up.ext | apply Up.alloc | apply Up.drew | (refine Up.setCell ?_ (by simp; try omega) _)))).mono ?_; intro _) | (go_at_call 127; refine (HW.out _).mono ?_; intro _))
        all_goals (refine bodyPost_give (by repeat (first | with_reducible exact Up.refl _ | with_reducible apply Up.plus | apply Up.ext | apply Up.alloc | apply Up.drew | (refine Up.setCell ?_ (by simp; try omega) _))) rfl ⟨_, (by simp [results, Tryz.results136, go_sem]; rfl), ?_⟩)
        all_goals rfl
      by_cases i1 : (n : Int) ≤ i
      · clear hv2
        (unfold Gives; go_enter Tryz.func136, Tryz.ntmps136)
        go_wp2_with (first | (go_at_call 126; refine (HC.out _ (by repeat (first | with_reducible exact Up.refl _ | with_reducible apply Up.plus | apply Up.ext | apply Up.alloc | apply Up.drew | (refine Up.setCell ?_ (by simp; try omega) _)))).mono ?_; intro _) | (go_at_call 127; refine (HW.out _).mono ?_; intro _))
        all_goals (refine bodyPost_give (by repeat (first | with_reducible exact Up.refl _ | with_reducible apply Up.plus | apply Up.ext | apply Up.alloc | apply Up.drew | (refine Up.setCell ?_ (by simp; try omega) _))) rfl ⟨_, (by simp [results, Tryz.results136, go_sem]; rfl), ?_⟩)
        all_goals rfl
      obtain rfl : T = false := by
        cases T
        · rfl
        · exact absurd ⟨by omega, by omega, rfl⟩ hv2
      clear hv2
      (unfold Gives; go_enter Tryz.func136, Tryz.ntmps136)
      go_wp2_with (first | (go_at_call 126; refine (HC.out _ (by repeat (first | with_reducible exact Up.refl _ | with_reducible apply Up.plus | apply Up.ext | apply Up.alloc | apply Up.drew | (refine Up.setCell ?_ (by simp; try omega) _)))).mono ?_; intro _) | (go_at_call 127; refine (HW.out _).mono ?_; intro _))
      all_goals (refine bodyPost_give (by repeat (first | with_reducible exact Up.refl _ | with_reducible apply Up.plus | apply Up.ext | apply Up.alloc | apply Up.drew | (refine Up.setCell ?_ (by simp; try omega) _))) rfl ⟨_, (by simp [results, Tryz.results136, go_sem]; rfl), ?_⟩)
      all_goals rfl
    · have h1b : (worldE l home != 0) = true := by simp [h1]
      clear hv hE hl hn h1 HL
      (unfold Gives; go_enter Tryz.func136, Tryz.ntmps136)
      go_wp2_with (first | (go_at_call 126; refine (HC.out _ (by repeat (first | with_reducible exact Up.refl _ | with_reducible apply Up.plus | apply Up.ext | apply Up.alloc | apply Up.drew | (refine Up.setCell ?_ (by simp; try omega) _)))).mono ?_; intro _) | (go_at_call 127; refine (sbetween_any _ _ _ _).mono ?_; intro _))
      all_goals (refine bodyPost_give (by repeat (first | with_reducible exact Up.refl _ | with_reducible apply Up.plus | apply Up.ext | apply Up.alloc | apply Up.drew | (refine Up.setCell ?_ (by simp; try omega) _))) rfl ⟨_, (by simp [results, Tryz.results136, go_sem]; rfl), ?_⟩)
      all_goals rfl
end Go.Proofs.YtnaiaodnnmhdkaaGreat

