/- Skies, offers, readings that came in; whether a sky is greater than the statements cover. Conditions: what lies in memory. -/
import Derived.Test.YtnaiaodnnmhdkaaGreatRaw
import Derived.Test.YtnaiaodnnmhdkaaGreatBig
import Derived.Test.YtnaiaodnnmhdkaaGreatWatchJ
namespace Go.Proofs.YtnaiaodnnmhdkaaGreat
set_option linter.unusedVariables false
set_option linter.unusedSimpArgs false
open Go.RowKit Go.ChangeShapes Go.WideShapes

theorem station_cells : Tryz.prog.cellsOf 116 = 3 := by kernel_rfl
theorem catalog_cells : Tryz.prog.cellsOf 120 = 3 := by kernel_rfl
theorem stations_cells : Tryz.prog.cellsOf 25 = 1 := by kernel_rfl
theorem catalogs_cells : Tryz.prog.cellsOf 26 = 1 := by kernel_rfl
theorem sky_cells : Tryz.prog.cellsOf 28 = 4 := by kernel_rfl
theorem offer_cells : Tryz.prog.cellsOf 32 = 11 := by kernel_rfl
theorem bool_cells : Tryz.prog.cellsOf 4 = 1 := by kernel_rfl
section
open Go.Joins
variable {H : Type} {enc : TypeId × Value → H} {W : World} {sp : Nat → Bool} {held : Bool}
set_option maxRecDepth 100000 in
theorem elem_station : ∀ n cs y, DataW.trod enc Tryz.prog W 0 sp held n 116 cs = some y → ∃ x, RTri W x cs := fun n cs y h => by
  obtain ⟨y0, y1, m, rfl, hl, h0, h1⟩ := trod_struct2 Tryz.underlying116 h
  rw [station_cells] at hl
  match cs, hl with
  | [c0, c1, c2], _ =>
    obtain ⟨a, e0, _, wa⟩ := DataW.trod_int Tryz.underlying3 h0
    simp [intt_cells, vec_cells] at e0 h1
    subst e0
    obtain ⟨p, hp⟩ := elem_vec _ _ _ h1
    obtain ⟨hp1, hp2, hp3⟩ := hp
    cases hp1
    exact ⟨(a, p.1, p.2), rfl, i64_of wa, hp2, hp3⟩
set_option maxRecDepth 100000 in
theorem elem_catalog : ∀ n cs y, DataW.trod enc Tryz.prog W 0 sp held n 120 cs = some y → ∃ x, RTri W x cs := fun n cs y h => by
  obtain ⟨y0, y1, m, rfl, hl, h0, h1⟩ := trod_struct2 Tryz.underlying120 h
  rw [catalog_cells] at hl
  match cs, hl with
  | [c0, c1, c2], _ =>
    obtain ⟨a, e0, _, wa⟩ := DataW.trod_int Tryz.underlying3 h0
    simp [intt_cells] at e0 h1
    subst e0
    obtain ⟨x, y, rfl, rfl, _, wx, wy⟩ := trod_span h1
    exact ⟨(a, x, y), rfl, i64_of wa, i64_of wx, i64_of wy⟩
set_option maxRecDepth 100000 in
theorem open_sky {b0 : Nat} {r : Reach} {v : Value} {d : DataW H} {p : List MemPlace} (hv : Value.okWide Tryz.prog W r b0 28 v) (h : DataW.Trod enc Tryz.prog W 0 (fun _ => true) true 28 v d p) :
    ∃ (a : Option Addr) (n c : Nat) (sa : Option Addr) (sn sc : Nat) (ca : Option Addr) (cn cc : Nat) (s : SkyD), v = .agg #[.slice a n c, .int .i64 s.home, .slice sa sn sc, .slice ca cn cc] ∧ SkyL (fun b => b < W.heap.size) W a n c sa sn sc ca cn cc s := by
  obtain ⟨cs, rfl, hsz⟩ := okWide_struct Tryz.underlying28 hv
  obtain ⟨l⟩ := cs
  obtain ⟨fuel, hf⟩ := h
  obtain ⟨xs, m, _, _, hl, hlen, hf⟩ := DataW.trod_struct Tryz.underlying28 hf
  match l, hsz.trans sky_cells with
  | [c0, c1, c2, c3], _ =>
    have h0 := hf 0 _ rfl
    have h1 := hf 1 _ rfl
    have h2 := hf 2 _ rfl
    match xs, hlen with
    | [y0, y1, y2], _ =>
      simp only [List.getElem?_cons_zero, List.getElem?_cons_succ] at h0 h1 h2
      simp [Value.cells, world_cells, stations_cells, catalogs_cells] at h0 h1 h2
      obtain ⟨z0, z1, k, _, _, g0, g1⟩ := trod_struct2 Tryz.underlying24 h0
      simp [bods_cells] at g0 g1
      obtain ⟨home, e1, _, wh⟩ := DataW.trod_int Tryz.underlying3 g1
      simp [intt_cells] at e1
      subst e1
      obtain ⟨bs, a, c, rfl, gb⟩ := open_lies (R := RBod (fun b => b < W.heap.size)) Tryz.underlying22 body_cells (by omega) elem_body g0
      obtain ⟨st, sa, sc, rfl, gs⟩ := open_lies (R := RTri) Tryz.underlying25 station_cells (by omega) elem_station h1
      obtain ⟨ct, ca, cc, rfl, gc⟩ := open_lies (R := RTri) Tryz.underlying26 catalog_cells (by omega) elem_catalog h2
      exact ⟨a, _, c, sa, _, sc, ca, _, cc, ⟨bs, home, st, ct⟩, rfl, ⟨a, c, rfl, gb⟩, i64_of wh, ⟨sa, sc, rfl, gs⟩, ⟨ca, cc, rfl, gc⟩⟩
end
set_option maxRecDepth 100000 in
set_option maxHeartbeats 1000000 in
theorem bigsky_any {K : Nat → Prop} {w : World} {a sa ca : Option Addr} {n c sn sc cn cc : Nat} {s : SkyD} {home : Int} (hL : SkyL K w a n c sa sn sc ca cn cc s) :
    Calls Tryz.prog 12 #[.agg #[.slice a n c, .int .i64 home, .slice sa sn sc, .slice ca cn cc]] w (AnyB w) := by
  have HB := hide (fun W (hu : Up w W) => bigworld_any (home := home) (hL.up hu).b)
  have m1 := (Tris.at hL.st).2.1
  have m2 := (Tris.at hL.ca).2.1
  clear hL
  go_enter Tryz.func12, Tryz.ntmps12
  go_wp2_with fail
  go_at_call 57
  refine (HB.out _ (by repeat (first | with_reducible exact Up.refl _ | with_reducible apply Up.plus | apply Up.ext | apply Up.alloc | apply Up.drew | (refine Up.setCell ?_ (by simp; try omega) _)))).mono ?_
  rintro _ _ ⟨b, q, rfl, rfl⟩
  cases b
  · by_cases h1 : 18 < sn
    · have d1 : decide ((18 : Int) < sn) = true := by simp; omega
      go_wp2
      obtain ⟨p, hp⟩ : Up w (ext (w.alloc (.cells #[.slice a n c, .int .i64 home, .slice sa sn sc, .slice ca cn cc] 28)) q) := (by repeat (first | with_reducible exact Up.refl _ | with_reducible apply Up.plus | apply Up.ext | apply Up.alloc | apply Up.drew | (refine Up.setCell ?_ (by simp; try omega) _)))
      exact bodyPost_ret (v := .bool true) (by simp [results, Tryz.results12, go_sem]) rfl ⟨true, p, rfl, hp⟩
    · have d1 : decide ((18 : Int) < sn) = false := by simp; omega
      by_cases h2 : 10 < cn
      · have d2 : decide ((10 : Int) < cn) = true := by simp; omega
        go_wp2
        obtain ⟨p, hp⟩ : Up w (ext (w.alloc (.cells #[.slice a n c, .int .i64 home, .slice sa sn sc, .slice ca cn cc] 28)) q) := (by repeat (first | with_reducible exact Up.refl _ | with_reducible apply Up.plus | apply Up.ext | apply Up.alloc | apply Up.drew | (refine Up.setCell ?_ (by simp; try omega) _)))
        exact bodyPost_ret (v := .bool true) (by simp [results, Tryz.results12, go_sem]) rfl ⟨true, p, rfl, hp⟩
      · have d2 : decide ((10 : Int) < cn) = false := by simp; omega
        go_wp2
        obtain ⟨p, hp⟩ : Up w (ext (w.alloc (.cells #[.slice a n c, .int .i64 home, .slice sa sn sc, .slice ca cn cc] 28)) q) := (by repeat (first | with_reducible exact Up.refl _ | with_reducible apply Up.plus | apply Up.ext | apply Up.alloc | apply Up.drew | (refine Up.setCell ?_ (by simp; try omega) _)))
        exact bodyPost_ret (v := .bool false) (by simp [results, Tryz.results12, go_sem]) rfl ⟨false, p, rfl, hp⟩
  · go_wp2
    obtain ⟨p, hp⟩ : Up w (ext (w.alloc (.cells #[.slice a n c, .int .i64 home, .slice sa sn sc, .slice ca cn cc] 28)) q) := (by repeat (first | with_reducible exact Up.refl _ | with_reducible apply Up.plus | apply Up.ext | apply Up.alloc | apply Up.drew | (refine Up.setCell ?_ (by simp; try omega) _)))
    exact bodyPost_ret (v := .bool true) (by simp [results, Tryz.results12, go_sem]) rfl ⟨true, p, rfl, hp⟩
end Go.Proofs.YtnaiaodnnmhdkaaGreat
