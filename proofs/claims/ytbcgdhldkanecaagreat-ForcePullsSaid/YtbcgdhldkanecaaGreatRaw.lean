/- Several texts in one. -/
import Derived.Test.YtbcgdhldkanecaaGreatSkyOf
import Derived.Test.YtbcgdhldkanecaaGreatSkyI
import Derived.Test.YtbcgdhldkanecaaGreatRingK
import Derived.Test.YtbcgdhldkanecaaGreatPostb
import Derived.Carry
/- A copy of a world that shares no lists: it lies in new blocks, each track in a block of its own. Conditions: the world is small. -/
namespace Go.Proofs.YtbcgdhldkanecaaGreat
set_option linter.unusedVariables false
set_option linter.unusedSimpArgs false
open Go.RowKit

/-- the places of a track in a block -/
def TrIn (W : World) (t : Nat) (tr : List (Int × Int)) : Prop := ∃ T, Box W t T 55 ∧ ∀ k p, tr[k]? = some p → T[k * 2]? = some (.int .i64 p.1) ∧ T[k * 2 + 1]? = some (.int .i64 p.2)
def ROw (base : Nat) (sv : Value) (W : World) (x : Bod × Nat) (vs : List Value) : Prop :=
  ∃ cap, vs = [.int .i64 x.1.mu, .int .i64 x.1.radius, .slice (some ⟨x.2, 0, none⟩) x.1.track.length cap] ∧ (I64 x.1.mu ∧ I64 x.1.radius) ∧ base ≤ x.2 ∧ sv.ownBlock ≠ some x.2 ∧ TrIn W x.2 x.1.track
def flatV (tr : List (Int × Int)) : List Value := (tr.map fun p => [Value.int .i64 p.1, Value.int .i64 p.2]).flatten
theorem flatV_len (tr : List (Int × Int)) : (flatV tr).length = tr.length * 2 := by
  unfold flatV
  induction tr with
  | nil => rfl
  | cons p tr ih => simp only [List.map_cons, List.flatten_cons, List.length_append, List.length_cons, List.length_nil]; omega
theorem flatV_at {tr : List (Int × Int)} {k : Nat} {p : Int × Int} (h : tr[k]? = some p) : (flatV tr)[k * 2]? = some (.int .i64 p.1) ∧ (flatV tr)[k * 2 + 1]? = some (.int .i64 p.2) := by
  have hk : (tr.map fun p => [Value.int .i64 p.1, Value.int .i64 p.2])[k]? = some [Value.int .i64 p.1, Value.int .i64 p.2] := by simp [h]
  have hl : ∀ us ∈ (tr.map fun p => [Value.int .i64 p.1, Value.int .i64 p.2]), us.length = 2 := fun us hu => by
    obtain ⟨q, _, rfl⟩ := List.mem_map.1 hu
    rfl
  exact ⟨flat_at _ k 0 _ _ hl hk rfl, flat_at _ k 1 _ _ hl hk rfl⟩
theorem flatV_one (tr : List (Int × Int)) : ∀ u ∈ flatV tr, u.oneCell' = true := fun u hu => by
  unfold flatV at hu
  obtain ⟨l, hl, hu⟩ := List.mem_flatten.1 hu
  obtain ⟨p, _, rfl⟩ := List.mem_map.1 hl
  rcases List.mem_cons.1 hu with rfl | hu
  · rfl
  · obtain rfl := List.mem_singleton.1 hu
    rfl
theorem vec_news {K : Nat → Prop} {w : World} {bt ot n c : Nat} {tr : List (Int × Int)} (h : Vecs K w (.slice (some ⟨bt, ot, none⟩) n c) tr) : ∀ j u, (flatV tr)[j]? = some u → w.cell? ((⟨bt, ot, none⟩ : Addr).add j) = some u := fun j u hu => by
  have hj : j < tr.length * 2 := by rw [← flatV_len]; exact (List.getElem?_eq_some_iff.1 hu).1
  obtain ⟨hn, _, hc⟩ := Vecs.at h
  obtain ⟨b, o, p, e1, _, _, hp, _, d0, d1⟩ := hc (j / 2) (by omega)
  cases e1
  have hf := flatV_at hp
  have ea : (⟨bt, ot, none⟩ : Addr).add j = ⟨bt, ot + j, none⟩ := by
    unfold Addr.add
    split
    · rename_i h; subst h; rfl
    · rfl
  rw [ea]
  rcases Nat.mod_two_eq_zero_or_one j with h2 | h2
  · have e : j = j / 2 * 2 := by omega
    rw [e] at hu
    rw [hf.1] at hu
    rw [e, ← hu]
    exact d0
  · have e : j = j / 2 * 2 + 1 := by omega
    rw [e] at hu
    rw [hf.2] at hu
    rw [e, ← hu, ← Nat.add_assoc]
    exact d1
theorem emptyRow {w : World} {base Z : Nat} {e : TypeId} {size : Nat} (hZ : w.heap.size = Z) (hb : base ≤ Z) : (w.alloc (.cells #[] e)).ownsRow base e size (.slice (some ⟨Z, 0, none⟩) 0 0) 0 [] := by
  refine ⟨by simp, .inr ⟨Z, 0, #[], rfl, hb, ?_, Nat.le_refl _, Nat.zero_le _, by simp, by simp⟩⟩
  exact Box.mk (c := #[]) (t := e) hZ
theorem own_tr {w : World} {base g n m cap : Nat} {tr : List (Int × Int)} (h : w.ownsRow base 55 2 (.slice (some ⟨g, 0, none⟩) n cap) m (flatV tr)) (hm : m = tr.length) : TrIn w g tr := by
  rcases h.2 with ⟨h0, _⟩ | ⟨g', cap', cur, h0, _, hg, _, _, _, ht⟩
  · cases h0
  · cases h0
    refine ⟨cur, hg, fun k p hp => ?_⟩
    have hk : k < tr.length := (List.getElem?_eq_some_iff.1 hp).1
    have hf := flatV_at hp
    rw [← ht] at hf
    rw [List.getElem?_take_of_lt (by omega), List.getElem?_take_of_lt (by omega)] at hf
    simpa using hf
theorem TrIn.grown {W W' : World} {t : Nat} {tr : List (Int × Int)} (h : TrIn W t tr) {row : Option Nat} (hg : W.grownBy W' row) (hr : row ≠ some t) : TrIn W' t tr := let ⟨T, h1, h2⟩ := h; ⟨T, h1.grown hg hr, h2⟩
theorem TrIn.alloc {W : World} {t : Nat} {tr : List (Int × Int)} (h : TrIn W t tr) (o : Obj) : TrIn (W.alloc o) t tr := let ⟨T, h1, h2⟩ := h; ⟨T, h1.alloc o, h2⟩
theorem TrIn.other {W : World} {t : Nat} {tr : List (Int × Int)} (h : TrIn W t tr) {b : Nat} (hb : t ≠ b) (i : Nat) (v : Value) : TrIn (W.setCell ⟨b, i, none⟩ v) t tr := let ⟨T, h1, h2⟩ := h; ⟨T, h1.other hb i v, h2⟩
theorem TrIn.lt {W : World} {t : Nat} {tr : List (Int × Int)} (h : TrIn W t tr) : t < W.heap.size := let ⟨_, h1, _⟩ := h; h1.lt
theorem TrIn.up {W W' : World} {t : Nat} {tr : List (Int × Int)} (h : TrIn W t tr) (hu : Up W W') : TrIn W' t tr := let ⟨T, h1, h2⟩ := h; ⟨T, h1.up hu, h2⟩

/-- stops the walk at an append -/
theorem stopA {P : Program} {ops : Array Oper} {Q : Exit → Act → World → Prop} {o : Oper} {rest : List Oper} {a : Act} {w : World} {ar : Array Operand} {ts : Array TypeId} (_ : o.op = .call { callee := .builtin .append, args := ar, argTypes := ts }) (h : Hid (wpList P ops Q (o :: rest) a w)) : wpList P ops Q (o :: rest) a w := h.out

theorem RowOf.mem {α : Type} {k : Nat} {R : α → List Value → Prop} {l : List α} {xs : List Value} (h : RowOf k R l xs) {x : α} (hx : x ∈ l) : ∃ vs, R x vs := by
  obtain ⟨i, hi, rfl⟩ := List.getElem_of_mem hx
  obtain ⟨vs, h1, _⟩ := h.cell (List.getElem?_eq_getElem hi)
  exact ⟨vs, h1⟩
/-- the copy, with k bodies done -/
def OwS (w : World) (a : Option Addr) (n c : Nat) (home : Int) (bs : List Bod) (k : Nat) (sv : Value) (wr : World) : Prop :=
  Up w wr ∧ Box wr w.heap.size #[.slice a n c, .int .i64 home] 24 ∧ Box wr (w.heap.size + 1) #[.slice none 0 0, .int .i64 0] 24 ∧
    ∃ (els : List (Bod × Nat)) (xs : List Value), wr.ownsRow (w.heap.size + 2) 73 3 sv els.length xs ∧ RowOf 3 (ROw (w.heap.size + 2) sv wr) els xs ∧ els.map Prod.fst = bs.take k ∧ els.length = k ∧ (els.map Prod.snd).Nodup

set_option maxRecDepth 100000 in
set_option maxHeartbeats 4000000 in
theorem ownworld_any {K : Nat → Prop} {w : World} {a : Option Addr} {n c : Nat} {bs : List Bod} {home : Int} (hl : Bods K w (.slice a n c) bs) (hb : ∀ b ∈ bs, SmallB b) (hn1 : 1 ≤ bs.length ∧ bs.length ≤ 3) :
    Calls Tryz.prog 14 #[.agg #[.slice a n c, .int .i64 home]] w fun e W' => ∃ (g cap : Nat) (els : List (Bod × Nat)) (xs : List Value) (p : Ext), e = .returned (.agg #[.slice (some ⟨g, 0, none⟩) bs.length cap, .int .i64 home]) ∧ W' = ext w p ∧
      W'.ownsRow (w.heap.size + 2) 73 3 (.slice (some ⟨g, 0, none⟩) bs.length cap) bs.length xs ∧ RowOf 3 (ROw (w.heap.size + 2) (.slice (some ⟨g, 0, none⟩) bs.length cap) W') els xs ∧ els.map Prod.fst = bs ∧ (els.map Prod.snd).Nodup := by
  obtain ⟨iv, hvi, hv0, hv1, hv2⟩ := info_parts Tryz.infovec
  obtain ⟨ib, hbi, hb0, hb1, hb2⟩ := info_parts Tryz.infobody
  have HI := hide (And.intro (And.intro hvi (And.intro hv0 (And.intro hv1 hv2))) (And.intro hbi (And.intro hb0 (And.intro hb1 hb2))))
  clear hvi hv0 hv1 hv2 hbi hb0 hb1 hb2
  have hn := (Bods.at hl).1
  have HN := hide hn
  rw [← hn] at hn1 ⊢
  obtain ⟨b0, o0, _, _, _, _, rfl, _, hb0l, _⟩ := (Bods.at hl).2.2 0 (by omega)
  have HL := hide (And.intro hl hb)
  clear hl hb hn
  go_enter Tryz.func14, Tryz.ntmps14
  go_wp2
  go_loopw [3, 4] (fun s3 s4 wr => ∃ k : Nat, s4 = .int .i64 k ∧ k ≤ n ∧ Hid (OwS w (some ⟨b0, o0, none⟩) n c home bs k s3 wr)) (fun _ s _ => n - (intOf s).toNat)
  case atStart => exact ⟨0, by go_num, by omega, hide ⟨(by repeat (first | with_reducible exact Up.refl _ | with_reducible apply Up.plus | apply Up.ext | apply Up.alloc | apply Up.drew | (refine Up.setCell ?_ (by simp; try omega) _))), (Box.mk rfl).alloc _, Box.mk (by simp), [], [], World.ownsRow_nil _ _ _ _, RowOf.nil _ _, by simp, rfl, by simp⟩⟩
  case round =>
    obtain ⟨k, rfl, hk, hJ⟩ := hrel
    obtain ⟨hu, bx0, bx1, els, xs, ho, hr, hm1, hm2, hm3⟩ := hJ.out
    have x0 := bx0.cell 0 rfl
    have lx0 := bx0.lt
    by_cases hlt : k < n
    · have hkb : decide ((k : Int) < n) = true := by simp; omega
      have hkn : decide (k < n) = true := by simp; omega
      obtain ⟨_, _, b, ta, tn, tc, e1, _, _, hbk, hIb, d0, d1, d2, hT⟩ := (Bods.at (HL.out.1.keeps (hu.keeps K))).2.2 k hlt
      cases e1
      have hsb := HL.out.2 b (List.mem_of_getElem? hbk)
      have htn := (Vecs.at hT).1
      have hs3 := hsb.2.2.1
      have htb : 1 ≤ tn ∧ tn ≤ 4 := by omega
      obtain ⟨bt, ot, _, rfl, _⟩ := (Vecs.at hT).2.2 0 (by omega)
      have hb0r : b0 < wr.heap.size := Nat.lt_of_lt_of_le hb0l hu.below.size
      have HX := hide (And.intro hu (And.intro bx0 (And.intro bx1 (And.intro ho (And.intro hr (And.intro hm1 (And.intro hm2 (And.intro hm3 (And.intro hbk (And.intro hIb (And.intro hT (And.intro htn hs3))))))))))))
      clear hJ hu bx0 bx1 ho hr hm1 hm2 hm3 hbk hIb hT htn hs3 hsb
      go_wp2_with (at_builtin; with_reducible refine stopA rfl ?_)
      obtain ⟨hu, bx0, bx1, ho, hr, hm1, hm2, hm3, hbk, hIb, hT, htn, hs3⟩ := HX.out
      have hsz := hu.below.size
      have hT' := hT.keeps ((((Up.refl wr).alloc (.cells #[.int .i64 b.mu, .int .i64 b.radius, .slice (some ⟨bt, ot, none⟩) tn tc] 73)).alloc (.cells #[] 55)).keeps K)
      have hu0 : Up w ((wr.alloc (.cells #[.int .i64 b.mu, .int .i64 b.radius, .slice (some ⟨bt, ot, none⟩) tn tc] 73)).alloc (.cells #[] 55)) := (hu.alloc _).alloc _
      refine hide ?_
      refine wpList_append_lies _ rfl (.tmp 18) (.tmp 20) 59 rfl (w.heap.size + 2) 55 iv _ 2 16 Tryz.underlying59 HI.out.1.1 HI.out.1.2.1 HI.out.1.2.2.1 HI.out.1.2.2.2 rfl (by decide) (.slice (some ⟨wr.heap.size + 1, 0, none⟩) 0 0) 0 [] rfl (emptyRow (by simp) (by have := bx1.lt; omega)) ⟨bt, ot, none⟩ tn tc (flatV b.track) rfl (by rw [flatV_len, htn]) (vec_news hT') (flatV_one _) (by omega) (by unfold maxLen; omega) (by omega) (by simp; have := bx1.lt; omega) _ rfl ?_
      intro g1 cap1 w1 hown1 hgrow1 hat1 hlt1
      rw [List.nil_append, Nat.zero_add] at hown1
      rw [Nat.zero_add]
      have hg1 : wr.heap.size + 1 ≤ g1 := by
        rcases hat1 with h | h
        · simp [Value.ownBlock] at h; omega
        · simp at h; omega
      have hs1 := hgrow1.size
      rw [World.size_alloc, World.size_alloc] at hs1
      have hu1 : Up w w1 := .of_below (hu0.below.grown hgrow1 hu0.below.size (fun k e => by simp [Value.ownBlock] at e; omega))
      have bz1 : Box w1 wr.heap.size #[.int .i64 b.mu, .int .i64 b.radius, .slice (some ⟨bt, ot, none⟩) tn tc] 73 := ((Box.mk rfl).alloc _).grown hgrow1 (fun e => by simp [Value.ownBlock] at e)
      have hT1 : TrIn w1 g1 b.track := own_tr hown1 htn
      have lx1 := bx1.lt
      have hol : ∀ k, u3.ownBlock = some k → w.heap.size + 2 ≤ k ∧ k < wr.heap.size := fun k e => ho.lt k e
      have ho1 : w1.ownsRow (w.heap.size + 2) 73 3 u3 els.length xs := ((ho.alloc _).alloc _).kept hgrow1 (.inr (fun e => by have := hol (wr.heap.size + 1) e; omega))
      have bx01 := ((bx0.alloc _).alloc _).grown hgrow1 (fun e => by simp [Value.ownBlock] at e; omega)
      have bx11 := ((bx1.alloc _).alloc _).grown hgrow1 (fun e => by simp [Value.ownBlock] at e; omega)
      have hr1 : RowOf 3 (fun x vs => ∃ cap, vs = [.int .i64 x.1.mu, .int .i64 x.1.radius, .slice (some ⟨x.2, 0, none⟩) x.1.track.length cap] ∧ (I64 x.1.mu ∧ I64 x.1.radius) ∧ (w.heap.size + 2 ≤ x.2 ∧ x.2 < wr.heap.size) ∧ u3.ownBlock ≠ some x.2 ∧ TrIn w1 x.2 x.1.track) els xs :=
        hr.mono fun x vs ⟨cap, e1, e2, e3, e4, e5⟩ => ⟨cap, e1, e2, ⟨e3, e5.lt⟩, e4, ((e5.alloc _).alloc _).grown hgrow1 (fun e => by have := e5.lt; simp [Value.ownBlock] at e; omega)⟩
      have z0 := bz1.cell 0 rfl
      have z1 := bz1.cell 1 rfl
      have z2 := bz1.cell 2 rfl
      have fz2 := bz1.frozen 2
      have lz := bz1.lt
      have HY := hide (And.intro hu1 (And.intro ho1 (And.intro bx01 (And.intro bx11 (And.intro hr1 (And.intro hT1 (And.intro hol htn)))))))
      clear htn hs3 hu0 hown1 hgrow1 hat1 bz1 hu bx0 bx1 ho hr hu1 ho1 bx01 bx11 hr1 hT1 hT hT' hol
      go_wp2_with (at_builtin; with_reducible refine stopA rfl ?_)
      refine hide ?_
      obtain ⟨hu1, ho1, bx01, bx11, hr1, hT1, hol, htn⟩ := HY.out
      have ho2 := (ho1.kept (grown_set (grown_refl _ (some wr.heap.size)) 2 (.slice (some ⟨g1, 0, none⟩) tn cap1)) (.inr (fun e => by have := hol wr.heap.size e; omega))).alloc (.cells #[.int .i64 b.mu, .int .i64 b.radius, .slice (some ⟨g1, 0, none⟩) tn cap1] 73)
      refine wpList_append_lies _ rfl (.tmp 23) (.tmp 25) 22 rfl (w.heap.size + 2) 73 ib _ 3 40 Tryz.underlying22 HI.out.2.1 HI.out.2.2.1 HI.out.2.2.2.1 HI.out.2.2.2.2 rfl (by decide) u3 els.length xs rfl ho2 ⟨w1.heap.size, 0, none⟩ 1 1 [.int .i64 b.mu, .int .i64 b.radius, .slice (some ⟨g1, 0, none⟩) tn cap1] rfl rfl
        (World.news_of_block (Box.mk (by simp [World.setCell]))) (fun u hu => by simp only [List.mem_cons, List.not_mem_nil, or_false] at hu; rcases hu with rfl | rfl | rfl <;> rfl) (by decide) (by unfold maxLen; omega) (by omega) (by simp [World.setCell]; omega) _ rfl ?_
      intro g cap w2 hown2 hgrow2 hat2 hlt2
      rw [HX.out.2.2.2.2.2.2.1] at hown2
      rw [HX.out.2.2.2.2.2.2.1]
      have hs2 := hgrow2.size
      simp only [World.size_alloc, set_size] at hs2
      have hu2 : Up w ((w1.setCell ⟨wr.heap.size, 2, none⟩ (.slice (some ⟨g1, 0, none⟩) tn cap1)).alloc (.cells #[.int .i64 b.mu, .int .i64 b.radius, .slice (some ⟨g1, 0, none⟩) tn cap1] 73)) := (hu1.setCell (by simp; omega) _).alloc _
      have hu3 : Up w w2 := .of_below (hu2.below.grown hgrow2 hu2.below.size (fun k e => by have := hol k e; omega))
      have bx02 := (((bx01.other (b' := wr.heap.size) (by omega) 2 (.slice (some ⟨g1, 0, none⟩) tn cap1)).alloc (.cells #[.int .i64 b.mu, .int .i64 b.radius, .slice (some ⟨g1, 0, none⟩) tn cap1] 73))).grown hgrow2 (fun e => by have := hol _ e; omega)
      have bx12 := (((bx11.other (b' := wr.heap.size) (by omega) 2 (.slice (some ⟨g1, 0, none⟩) tn cap1)).alloc (.cells #[.int .i64 b.mu, .int .i64 b.radius, .slice (some ⟨g1, 0, none⟩) tn cap1] 73))).grown hgrow2 (fun e => by have := hol _ e; omega)
      have hgne : ∀ x, x < w1.heap.size → u3.ownBlock ≠ some x → g ≠ x := fun x hx hne e => by
        subst e
        rcases hat2 with h | h
        · exact hne h
        · simp only [World.size_alloc, set_size] at h; omega
      have hone : u3.ownBlock ≠ some g1 := fun e => by have := hol _ e; omega
      have hrN : RowOf 3 (ROw (w.heap.size + 2) (.slice (some ⟨g, 0, none⟩) (k + 1) cap) w2) (els ++ [(b, g1)]) (xs ++ [.int .i64 b.mu, .int .i64 b.radius, .slice (some ⟨g1, 0, none⟩) tn cap1]) := by
        refine (hr1.mono fun x vs ⟨cap', e1, e2, e3, e4, e5⟩ => ⟨cap', e1, e2, e3.1, fun e => hgne x.2 (by omega) e4 (by simpa [Value.ownBlock] using e), ((e5.other (b := wr.heap.size) (by omega) _ _).alloc _).grown hgrow2 e4⟩).snoc (x := (b, g1)) ⟨cap1, by rw [htn], HX.out.2.2.2.2.2.2.2.2.2.1, (by omega), fun e => hgne g1 hlt1 hone (by simpa [Value.ownBlock] using e), ((hT1.other (b := wr.heap.size) (by omega) _ _).alloc _).grown hgrow2 hone⟩ rfl
      have hNew := hide (show OwS w (some ⟨b0, o0, none⟩) n c home bs (k + 1) (.slice (some ⟨g, 0, none⟩) (k + 1) cap) w2 from
        ⟨hu3, bx02, bx12, els ++ [(b, g1)], _, by rw [List.length_append]; simp only [List.length_cons, List.length_nil, HX.out.2.2.2.2.2.2.1]; exact hown2, hrN, by
          rw [List.map_append, HX.out.2.2.2.2.2.1, List.take_add_one, HX.out.2.2.2.2.2.2.2.2.1]; rfl, by rw [List.length_append, HX.out.2.2.2.2.2.2.1]; rfl, by
          rw [List.map_append, List.nodup_append]
          refine ⟨HX.out.2.2.2.2.2.2.2.1, by simp, fun x hx y hy => ?_⟩
          obtain rfl : y = g1 := by simpa using hy
          obtain ⟨z, hz, rfl⟩ := List.mem_map.1 hx
          obtain ⟨vs, _, _, _, e3, _⟩ := hr1.mem hz
          omega⟩)
      clear hown2 hgrow2 hat2 hlt2 hu1 ho1 bx01 bx11 hr1 hT1 hol htn ho2 hu2 hu3 bx02 bx12 hgne hone hrN z0 z1 z2 fz2 lz d0 d1 d2 HY x0 lx0 hs1 hs2 lx1
      go_wp2
      go_roundw
      case rel => exact ⟨k + 1, by go_num, by omega, hNew⟩
      case measure => simp [intOf]; omega
    · have hkb : decide ((k : Int) < n) = false := by simp; omega
      have hkn2 : decide (k < n) = false := by simp; omega
      have hkn : k = n := by omega
      obtain ⟨g, cap, rfl, hgb, hgl⟩ := ho.form (by omega)
      have f0 := bx0.frozen 0
      have x1 := bx0.cell 1 rfl
      have y0 := bx1.cell 0 rfl
      have y1 := bx1.cell 1 rfl
      have fy0 := bx1.frozen 0
      have fy1 := bx1.frozen 1
      have ly := bx1.lt
      have hg2 : w.heap.size + 2 ≤ g := (ho.lt g rfl).1
      have hm2' := hide hm2
      have HX := hide (And.intro hu (And.intro bx0 (And.intro bx1 (And.intro ho (And.intro hr (And.intro hm1 hm3))))))
      clear hJ hu bx0 bx1 ho hr hm1 hm2 hm3
      obtain ⟨m, hm⟩ : ∃ m, els.length = m := ⟨_, rfl⟩
      rw [hm]
      have hmm := hide hm
      clear hm
      go_wp2_with fail
      obtain ⟨hu, bx0, bx1, ho, hr, hm1, hm3⟩ := HX.out
      have hmn : m = n := by have h1 := hmm.out; have h2 := hm2'.out; omega
      rw [hmm.out, hmn] at ho
      rw [hmm.out, hmn] at hr
      rw [hmn]
      have hc0 : World.cell? (((wr.setCell ⟨w.heap.size, 0, none⟩ (.slice (some ⟨g, 0, none⟩) n cap)).setCell ⟨w.heap.size + 1, 0, none⟩ (.slice (some ⟨g, 0, none⟩) n cap)).setCell ⟨w.heap.size + 1, 1, none⟩ (.int .i64 home)) ⟨w.heap.size + 1, 0, none⟩ = some (.slice (some ⟨g, 0, none⟩) n cap) := (((bx1.other (by omega) 0 (.slice (some ⟨g, 0, none⟩) n cap)).set 0 (.slice (some ⟨g, 0, none⟩) n cap)).set 1 (.int .i64 home)).cell 0 rfl
      have hc1 : World.cell? (((wr.setCell ⟨w.heap.size, 0, none⟩ (.slice (some ⟨g, 0, none⟩) n cap)).setCell ⟨w.heap.size + 1, 0, none⟩ (.slice (some ⟨g, 0, none⟩) n cap)).setCell ⟨w.heap.size + 1, 1, none⟩ (.int .i64 home)) ⟨w.heap.size + 1, 1, none⟩ = some (.int .i64 home) := (((bx1.other (by omega) 0 (.slice (some ⟨g, 0, none⟩) n cap)).set 0 (.slice (some ⟨g, 0, none⟩) n cap)).set 1 (.int .i64 home)).cell 1 rfl
      obtain ⟨p, hp⟩ : Up w (((wr.setCell ⟨w.heap.size, 0, none⟩ (.slice (some ⟨g, 0, none⟩) n cap)).setCell ⟨w.heap.size + 1, 0, none⟩ (.slice (some ⟨g, 0, none⟩) n cap)).setCell ⟨w.heap.size + 1, 1, none⟩ (.int .i64 home)) :=
        ((hu.setCell (by simp) _).setCell (by simp) _).setCell (by simp) _
      have kept : ∀ {V : World} (b i : Nat) (v : Value), b < w.heap.size + 2 → V.ownsRow (w.heap.size + 2) 73 3 (.slice (some ⟨g, 0, none⟩) n cap) n xs → (V.setCell ⟨b, i, none⟩ v).ownsRow (w.heap.size + 2) 73 3 (.slice (some ⟨g, 0, none⟩) n cap) n xs := fun {V} b i v hb h =>
        h.kept (grown_set (grown_refl _ (some b)) i v) (.inr (fun e => by have := (h.lt b e).1; omega))
      refine bodyPost_ret (v := .agg #[.slice (some ⟨g, 0, none⟩) n cap, .int .i64 home]) (by simp [results, Tryz.results14, go_sem, hc0, hc1]) rfl ⟨g, cap, els, xs, p, rfl, hp, ?_, ?_, ?_, hm3⟩
      · exact kept _ _ _ (by omega) (kept _ _ _ (by omega) (kept _ _ _ (by omega) ho))
      · exact hr.mono fun x vs ⟨c', e1, e2, e3, e4, e5⟩ => ⟨c', e1, e2, e3, e4, ((e5.other (by omega) _ _).other (by omega) _ _).other (by omega) _ _⟩
      · rw [hm1, hkn, List.take_of_length_le (by rw [← HN.out]; exact Nat.le_refl _)]
end Go.Proofs.YtbcgdhldkanecaaGreat

/- Drifts and states that came in; how what came in is handed on where nothing below has turned; what the ring leaves as it lay. No conditions. -/
namespace Go.Proofs.YtbcgdhldkanecaaGreat
set_option linter.unusedVariables false
set_option linter.unusedSimpArgs false
open Go.RowKit Go.WideShapes Go.ChangeShapes

theorem RingAt.keeps {K : Nat → Prop} {w W : World} {B : Nat} {n : Int} (h : RingAt w B n W) (hK : ∀ b, K b → b ≠ B) : Keeps K w W := by
  obtain ⟨t, p, _, _, rfl⟩ := h
  exact Keeps.grown (grown_up (grown_set (grown_refl _ _) _ _) ((Up.refl _).ext p)) hK

theorem laidOut : laidOutB Tryz.prog = true := by kernel_rfl
theorem drift_cells : Tryz.prog.cellsOf 28 = 5 := by kernel_rfl
theorem state_cells : Tryz.prog.cellsOf 65 = 4 := by kernel_rfl
section
open Go.Joins
variable {H : Type} {enc : TypeId × Value → H} {W : World} {sp : Nat → Bool} {held : Bool}
/-- what came in reads as it did where nothing below has turned -/
theorem shut_stay {t : TypeId} {v : Value} {d : DataW H} {p : List MemPlace} (hr : Tryz.prog.readableRec t = true) (hrow : decide (t < Tryz.prog.types.size) = true) (h : DataW.Trod enc Tryz.prog W 0 (fun _ => true) true t v d p) (hlt : ∀ x ∈ p, x.block < W.heap.size)
    (W' : World) (sp : Nat → Bool) (hb : Below W.heap.size W W') (hs : ∀ x ∈ p, sp x.block = true) : DataW.Trod enc Tryz.prog W' 0 sp true t v d p :=
  WideElems.Trod_stays laidOut hr (of_decide_eq_true hrow) h (fun x hx => hb.same (hlt x hx)) hs
set_option maxRecDepth 100000 in
theorem open_drift {b0 : Nat} {r : Reach} {v : Value} {d : DataW H} {p : List MemPlace} (hv : Value.okWide Tryz.prog W r b0 28 v) (h : DataW.Trod enc Tryz.prog W 0 sp held 28 v d p) :
    ∃ a b c e g : Int, v = .agg #[.int .i64 (a), .int .i64 (b), .int .i64 (c), .int .i64 (e), .int .i64 (g)] := by
  obtain ⟨cs, rfl, hsz⟩ := okWide_struct Tryz.underlying28 hv
  obtain ⟨l⟩ := cs
  obtain ⟨fuel, hf⟩ := h
  obtain ⟨xs, m, _, _, hl, hlen, hf⟩ := DataW.trod_struct Tryz.underlying28 hf
  match l, hsz.trans drift_cells with
  | [c0, c1, c2, c3, c4], _ =>
    have h0 := hf 0 _ rfl
    have h1 := hf 1 _ rfl
    have h2 := hf 2 _ rfl
    match xs, hlen with
    | [y0, y1, y2], _ =>
      simp only [List.getElem?_cons_zero, List.getElem?_cons_succ] at h0 h1 h2
      simp [Value.cells, span_cells] at h0 h1 h2
      obtain ⟨a, b, rfl, rfl, _⟩ := trod_span h0
      obtain ⟨c, e, rfl, rfl, _⟩ := trod_span h1
      obtain ⟨g, e1, _, wg⟩ := DataW.trod_int Tryz.underlying2 h2
      simp [ints_cells] at e1
      subst e1
      exact ⟨a, b, c, e, g, rfl⟩
set_option maxRecDepth 100000 in
theorem open_state {b0 : Nat} {r : Reach} {v : Value} {d : DataW H} {p : List MemPlace} (hv : Value.okWide Tryz.prog W r b0 65 v) (h : DataW.Trod enc Tryz.prog W 0 sp held 65 v d p) :
    ∃ a b c e : Int, v = .agg #[.int .i64 (a), .int .i64 (b), .int .i64 (c), .int .i64 (e)] ∧ I64 a ∧ I64 b ∧ I64 c ∧ I64 e := by
  obtain ⟨cs, rfl, hsz⟩ := okWide_struct Tryz.underlying65 hv
  obtain ⟨l⟩ := cs
  obtain ⟨fuel, hf⟩ := h
  obtain ⟨xs, m, _, _, hl, hlen, hf⟩ := DataW.trod_struct Tryz.underlying65 hf
  match l, hsz.trans state_cells with
  | [c0, c1, c2, c3], _ =>
    have h0 := hf 0 _ rfl
    have h1 := hf 1 _ rfl
    have h2 := hf 2 _ rfl
    have h3 := hf 3 _ rfl
    match xs, hlen with
    | [y0, y1, y2, y3], _ =>
      simp only [List.getElem?_cons_zero, List.getElem?_cons_succ] at h0 h1 h2 h3
      obtain ⟨a, e0, _, wa⟩ := DataW.trod_int Tryz.underlying2 h0
      obtain ⟨b, e1, _, wb⟩ := DataW.trod_int Tryz.underlying2 h1
      obtain ⟨c, e2, _, wc⟩ := DataW.trod_int Tryz.underlying2 h2
      obtain ⟨e, e3, _, we⟩ := DataW.trod_int Tryz.underlying2 h3
      simp [Value.cells, ints_cells] at e0 e1 e2 e3
      subst e0 e1 e2 e3
      exact ⟨a, b, c, e, rfl, i64_of wa, i64_of wb, i64_of wc, i64_of we⟩
end
end Go.Proofs.YtbcgdhldkanecaaGreat

