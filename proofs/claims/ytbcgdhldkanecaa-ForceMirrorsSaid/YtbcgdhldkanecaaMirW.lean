/- Several texts in one. -/
import Derived.Test.YtbcgdhldkanecaaSkyOf
import Derived.Test.YtbcgdhldkanecaaMirP
/- A copy of a world that shares no lists: it lies in new blocks, each track in a block of its own. Conditions: the world is small. -/
namespace Go.Proofs.Ytbcgdhldkanecaa
open Go.RowKit

/-- the places of a track in a block -/
def TrIn (W : World) (t : Nat) (tr : List (Int × Int)) : Prop := ∃ T, Box W t T 26 ∧ ∀ k p, tr[k]? = some p → T[k * 2]? = some (.int .i64 p.1) ∧ T[k * 2 + 1]? = some (.int .i64 p.2)
def ROw (base : Nat) (sv : Value) (W : World) (x : Bod × Nat) (vs : List Value) : Prop :=
  ∃ cap, vs = [.int .i64 x.1.mu, .int .i64 x.1.radius, .slice (some ⟨x.2, 0, none⟩) x.1.track.length cap] ∧ (I64 x.1.mu ∧ I64 x.1.radius) ∧ base ≤ x.2 ∧ sv.ownBlock ≠ some x.2 ∧ TrIn W x.2 x.1.track
def flatV (tr : List (Int × Int)) : List Value := (tr.map fun p => [Value.int .i64 p.1, Value.int .i64 p.2]).flatten
theorem flatV_len (tr : List (Int × Int)) : (flatV tr).length = tr.length * 2 := by
  unfold flatV
  induction tr with
  | nil => rfl
  | cons p tr ih => simp only [List.map_cons, List.flatten_cons, List.length_append, List.length_cons, List.length_nil]; omega
theorem flatV_at {tr : List (Int × Int)} {k : Nat} {p : Int × Int} (h : tr[k]? = some p) : (flatV tr)[k * 2]? = some (.int .i64 p.1) ∧ (flatV tr)[k * 2 + 1]? = some (.int .i64 p.2) := by
  have hk : (tr.map fun p => [Value.int .i64 p.1, Value.int .i64 p.2])[k]? = some [Value.int .i64 p.1, Value.int .i64 p.2] := by simp [h]
  have hl : ∀ us ∈ (tr.map fun p => [Value.int .i64 p.1, Value.int .i64 p.2]), us.length = 2 := fun us hu => by
    obtain ⟨q, _, rfl⟩ := List.mem_map.1 hu
    rfl
  exact ⟨flat_at _ k 0 _ _ hl hk rfl, flat_at _ k 1 _ _ hl hk rfl⟩
theorem flatV_one (tr : List (Int × Int)) : ∀ u ∈ flatV tr, u.oneCell' = true := fun u hu => by
  unfold flatV at hu
  obtain ⟨l, hl, hu⟩ := List.mem_flatten.1 hu
  obtain ⟨p, _, rfl⟩ := List.mem_map.1 hl
  rcases List.mem_cons.1 hu with rfl | hu
  · rfl
  · obtain rfl := List.mem_singleton.1 hu
    rfl
theorem vec_news {K : Nat → Prop} {w : World} {bt ot n c : Nat} {tr : List (Int × Int)} (h : Vecs K w (.slice (some ⟨bt, ot, none⟩) n c) tr) : ∀ j u, (flatV tr)[j]? = some u → w.cell? ((⟨bt, ot, none⟩ : Addr).add j) = some u := fun j u hu => by
  have hj : j < tr.length * 2 := by rw [← flatV_len]; exact (List.getElem?_eq_some_iff.1 hu).1
  obtain ⟨hn, _, hc⟩ := Vecs.at h
  obtain ⟨b, o, p, e1, _, _, hp, _, d0, d1⟩ := hc (j / 2) (by omega)
  cases e1
  have hf := flatV_at hp
  have ea : (⟨bt, ot, none⟩ : Addr).add j = ⟨bt, ot + j, none⟩ := by
    unfold Addr.add
    split
    · rename_i h; subst h; rfl
    · rfl
  rw [ea]
  rcases Nat.mod_two_eq_zero_or_one j with h2 | h2
  · have e : j = j / 2 * 2 := by omega
    rw [e] at hu
    rw [hf.1] at hu
    rw [e, ← hu]
    exact d0
  · have e : j = j / 2 * 2 + 1 := by omega
    rw [e] at hu
    rw [hf.2] at hu
    rw [e, ← hu, ← Nat.add_assoc]
    exact d1
theorem emptyRow {w : World} {base Z : Nat} {e : TypeId} {size : Nat} (hZ : w.heap.size = Z) (hb : base ≤ Z) : (w.alloc (.cells #[] e)).ownsRow base e size (.slice (some ⟨Z, 0, none⟩) 0 0) 0 [] := by
  refine ⟨by simp, .inr ⟨Z, 0, #[], rfl, hb, ?_, Nat.le_refl _, Nat.zero_le _, by simp, by simp⟩⟩
  exact Box.mk (c := #[]) (t := e) hZ
theorem own_tr {w : World} {base g n m cap : Nat} {tr : List (Int × Int)} (h : w.ownsRow base 26 2 (.slice (some ⟨g, 0, none⟩) n cap) m (flatV tr)) (hm : m = tr.length) : TrIn w g tr := by
  rcases h.2 with ⟨h0, _⟩ | ⟨g', cap', cur, h0, _, hg, _, _, _, ht⟩
  · cases h0
  · cases h0
    refine ⟨cur, hg, fun k p hp => ?_⟩
    have hk : k < tr.length := (List.getElem?_eq_some_iff.1 hp).1
    have hf := flatV_at hp
    rw [← ht] at hf
    rw [List.getElem?_take_of_lt (by omega), List.getElem?_take_of_lt (by omega)] at hf
    simpa using hf
theorem TrIn.grown {W W' : World} {t : Nat} {tr : List (Int × Int)} (h : TrIn W t tr) {row : Option Nat} (hg : W.grownBy W' row) (hr : row ≠ some t) : TrIn W' t tr := let ⟨T, h1, h2⟩ := h; ⟨T, h1.grown hg hr, h2⟩
theorem TrIn.alloc {W : World} {t : Nat} {tr : List (Int × Int)} (h : TrIn W t tr) (o : Obj) : TrIn (W.alloc o) t tr := let ⟨T, h1, h2⟩ := h; ⟨T, h1.alloc o, h2⟩
theorem TrIn.other {W : World} {t : Nat} {tr : List (Int × Int)} (h : TrIn W t tr) {b : Nat} (hb : t ≠ b) (i : Nat) (v : Value) : TrIn (W.setCell ⟨b, i, none⟩ v) t tr := let ⟨T, h1, h2⟩ := h; ⟨T, h1.other hb i v, h2⟩
theorem TrIn.lt {W : World} {t : Nat} {tr : List (Int × Int)} (h : TrIn W t tr) : t < W.heap.size := let ⟨_, h1, _⟩ := h; h1.lt
theorem TrIn.up {W W' : World} {t : Nat} {tr : List (Int × Int)} (h : TrIn W t tr) (hu : Up W W') : TrIn W' t tr := let ⟨T, h1, h2⟩ := h; ⟨T, h1.up hu, h2⟩

/-- stops the walk at an append -/
theorem stopA {P : Program} {ops : Array Oper} {Q : Exit → Act → World → Prop} {o : Oper} {rest : List Oper} {a : Act} {w : World} {ar : Array Operand} {ts : Array TypeId} (_ : o.op = .call { callee := .builtin .append, args := ar, argTypes := ts }) (h : Hid (wpList P ops Q (o :: rest) a w)) : wpList P ops Q (o :: rest) a w := h.out

theorem RowOf.mem {α : Type} {k : Nat} {R : α → List Value → Prop} {l : List α} {xs : List Value} (h : RowOf k R l xs) {x : α} (hx : x ∈ l) : ∃ vs, R x vs := by
  obtain ⟨i, hi, rfl⟩ := List.getElem_of_mem hx
  obtain ⟨vs, h1, _⟩ := h.cell (List.getElem?_eq_getElem hi)
  exact ⟨vs, h1⟩
/-- the copy, with k bodies done -/
def OwS (w : World) (a : Option Addr) (n c : Nat) (home : Int) (bs : List Bod) (k : Nat) (sv : Value) (wr : World) : Prop :=
  Up w wr ∧ Box wr w.heap.size #[.slice a n c, .int .i64 home] 34 ∧ Box wr (w.heap.size + 1) #[.slice none 0 0, .int .i64 0] 34 ∧
    ∃ (els : List (Bod × Nat)) (xs : List Value), wr.ownsRow (w.heap.size + 2) 31 3 sv els.length xs ∧ RowOf 3 (ROw (w.heap.size + 2) sv wr) els xs ∧ els.map Prod.fst = bs.take k ∧ els.length = k ∧ (els.map Prod.snd).Nodup

set_option maxRecDepth 100000 in
set_option maxHeartbeats 4000000 in
theorem ownworld_any {K : Nat → Prop} {w : World} {a : Option Addr} {n c : Nat} {bs : List Bod} {home : Int} (hl : Bods K w (.slice a n c) bs) (hb : ∀ b ∈ bs, SmallB b) (hn1 : 1 ≤ bs.length ∧ bs.length ≤ 3) :
    Calls Try.prog 53 #[.agg #[.slice a n c, .int .i64 home]] w fun e W' => ∃ (g cap : Nat) (els : List (Bod × Nat)) (xs : List Value) (p : Ext), e = .returned (.agg #[.slice (some ⟨g, 0, none⟩) bs.length cap, .int .i64 home]) ∧ W' = ext w p ∧
      W'.ownsRow (w.heap.size + 2) 31 3 (.slice (some ⟨g, 0, none⟩) bs.length cap) bs.length xs ∧ RowOf 3 (ROw (w.heap.size + 2) (.slice (some ⟨g, 0, none⟩) bs.length cap) W') els xs ∧ els.map Prod.fst = bs ∧ (els.map Prod.snd).Nodup := by
  obtain ⟨iv, hvi, hv0, hv1, hv2⟩ := info_parts Try.infovec
  obtain ⟨ib, hbi, hb0, hb1, hb2⟩ := info_parts Try.infobody
  have HI := hide (And.intro (And.intro hvi (And.intro hv0 (And.intro hv1 hv2))) (And.intro hbi (And.intro hb0 (And.intro hb1 hb2))))
  clear hvi hv0 hv1 hv2 hbi hb0 hb1 hb2
  have hn := (Bods.at hl).1
  have HN := hide hn
  rw [← hn] at hn1 ⊢
  obtain ⟨b0, o0, _, _, _, _, rfl, _, hb0l, _⟩ := (Bods.at hl).2.2 0 (by omega)
  have HL := hide (And.intro hl hb)
  clear hl hb hn
  go_enter Try.func53, Try.ntmps53
  go_wp2
  go_loopw [3, 4] (fun s3 s4 wr => ∃ k : Nat, s4 = .int .i64 k ∧ k ≤ n ∧ Hid (OwS w (some ⟨b0, o0, none⟩) n c home bs k s3 wr)) (fun _ s _ => n - (intOf s).toNat)
  case atStart => exact ⟨0, by go_num, by omega, hide ⟨(by repeat (first | with_reducible exact Up.refl _ | with_reducible apply Up.plus | apply Up.ext | apply Up.alloc | apply Up.drew | (refine Up.setCell ?_ (by simp; try omega) _))), (Box.mk rfl).alloc _, Box.mk (by simp), [], [], World.ownsRow_nil _ _ _ _, RowOf.nil _ _, by simp, rfl, by simp⟩⟩
  case round =>
    obtain ⟨k, rfl, hk, hJ⟩ := hrel
    obtain ⟨hu, bx0, bx1, els, xs, ho, hr, hm1, hm2, hm3⟩ := hJ.out
    have x0 := bx0.cell 0 rfl
    have lx0 := bx0.lt
    by_cases hlt : k < n
    · have hkb : decide ((k : Int) < n) = true := by simp; omega
      have hkn : decide (k < n) = true := by simp; omega
      obtain ⟨_, _, b, ta, tn, tc, e1, _, _, hbk, hIb, d0, d1, d2, hT⟩ := (Bods.at (HL.out.1.keeps (hu.keeps K))).2.2 k hlt
      cases e1
      have hsb := HL.out.2 b (List.mem_of_getElem? hbk)
      have htn := (Vecs.at hT).1
      have hs3 := hsb.2.2.1
      have htb : 1 ≤ tn ∧ tn ≤ 4 := by omega
      obtain ⟨bt, ot, _, rfl, _⟩ := (Vecs.at hT).2.2 0 (by omega)
      have hb0r : b0 < wr.heap.size := Nat.lt_of_lt_of_le hb0l hu.below.size
      have HX := hide (And.intro hu (And.intro bx0 (And.intro bx1 (And.intro ho (And.intro hr (And.intro hm1 (And.intro hm2 (And.intro hm3 (And.intro hbk (And.intro hIb (And.intro hT (And.intro htn hs3))))))))))))
      clear hJ hu bx0 bx1 ho hr hm1 hm2 hm3 hbk hIb hT htn hs3 hsb
      go_wp2_with (at_builtin; with_reducible refine stopA rfl ?_)
      obtain ⟨hu, bx0, bx1, ho, hr, hm1, hm2, hm3, hbk, hIb, hT, htn, hs3⟩ := HX.out
      have hsz := hu.below.size
      have hT' := hT.keeps ((((Up.refl wr).alloc (.cells #[.int .i64 b.mu, .int .i64 b.radius, .slice (some ⟨bt, ot, none⟩) tn tc] 31)).alloc (.cells #[] 26)).keeps K)
      have hu0 : Up w ((wr.alloc (.cells #[.int .i64 b.mu, .int .i64 b.radius, .slice (some ⟨bt, ot, none⟩) tn tc] 31)).alloc (.cells #[] 26)) := (hu.alloc _).alloc _
      refine hide ?_
      refine wpList_append_lies _ rfl (.tmp 18) (.tmp 20) 29 rfl (w.heap.size + 2) 26 iv _ 2 16 Try.underlying29 HI.out.1.1 HI.out.1.2.1 HI.out.1.2.2.1 HI.out.1.2.2.2 rfl (by decide) (.slice (some ⟨wr.heap.size + 1, 0, none⟩) 0 0) 0 [] rfl (emptyRow (by simp) (by have := bx1.lt; omega)) ⟨bt, ot, none⟩ tn tc (flatV b.track) rfl (by rw [flatV_len, htn]) (vec_news hT') (flatV_one _) (by omega) (by unfold maxLen; omega) (by omega) (by simp; have := bx1.lt; omega) _ rfl ?_
      intro g1 cap1 w1 hown1 hgrow1 hat1 hlt1
      rw [List.nil_append, Nat.zero_add] at hown1
      rw [Nat.zero_add]
      have hg1 : wr.heap.size + 1 ≤ g1 := by
        rcases hat1 with h | h
        · simp [Value.ownBlock] at h; omega
        · simp at h; omega
      have hs1 := hgrow1.size
      rw [World.size_alloc, World.size_alloc] at hs1
      have hu1 : Up w w1 := .of_below (hu0.below.grown hgrow1 hu0.below.size (fun k e => by simp [Value.ownBlock] at e; omega))
      have bz1 : Box w1 wr.heap.size #[.int .i64 b.mu, .int .i64 b.radius, .slice (some ⟨bt, ot, none⟩) tn tc] 31 := ((Box.mk rfl).alloc _).grown hgrow1 (fun e => by simp [Value.ownBlock] at e)
      have hT1 : TrIn w1 g1 b.track := own_tr hown1 htn
      have lx1 := bx1.lt
      have hol : ∀ k, u3.ownBlock = some k → w.heap.size + 2 ≤ k ∧ k < wr.heap.size := fun k e => ho.lt k e
      have ho1 : w1.ownsRow (w.heap.size + 2) 31 3 u3 els.length xs := ((ho.alloc _).alloc _).kept hgrow1 (.inr (fun e => by have := hol (wr.heap.size + 1) e; omega))
      have bx01 := ((bx0.alloc _).alloc _).grown hgrow1 (fun e => by simp [Value.ownBlock] at e; omega)
      have bx11 := ((bx1.alloc _).alloc _).grown hgrow1 (fun e => by simp [Value.ownBlock] at e; omega)
      have hr1 : RowOf 3 (fun x vs => ∃ cap, vs = [.int .i64 x.1.mu, .int .i64 x.1.radius, .slice (some ⟨x.2, 0, none⟩) x.1.track.length cap] ∧ (I64 x.1.mu ∧ I64 x.1.radius) ∧ (w.heap.size + 2 ≤ x.2 ∧ x.2 < wr.heap.size) ∧ u3.ownBlock ≠ some x.2 ∧ TrIn w1 x.2 x.1.track) els xs :=
        hr.mono fun x vs ⟨cap, e1, e2, e3, e4, e5⟩ => ⟨cap, e1, e2, ⟨e3, e5.lt⟩, e4, ((e5.alloc _).alloc _).grown hgrow1 (fun e => by have := e5.lt; simp [Value.ownBlock] at e; omega)⟩
      have z0 := bz1.cell 0 rfl
      have z1 := bz1.cell 1 rfl
      have z2 := bz1.cell 2 rfl
      have fz2 := bz1.frozen 2
      have lz := bz1.lt
      have HY := hide (And.intro hu1 (And.intro ho1 (And.intro bx01 (And.intro bx11 (And.intro hr1 (And.intro hT1 (And.intro hol htn)))))))
      clear htn hs3 hu0 hown1 hgrow1 hat1 bz1 hu bx0 bx1 ho hr hu1 ho1 bx01 bx11 hr1 hT1 hT hT' hol
      go_wp2_with (at_builtin; with_reducible refine stopA rfl ?_)
      refine hide ?_
      obtain ⟨hu1, ho1, bx01, bx11, hr1, hT1, hol, htn⟩ := HY.out
      have ho2 := (ho1.kept (grown_set (grown_refl _ (some wr.heap.size)) 2 (.slice (some ⟨g1, 0, none⟩) tn cap1)) (.inr (fun e => by have := hol wr.heap.size e; omega))).alloc (.cells #[.int .i64 b.mu, .int .i64 b.radius, .slice (some ⟨g1, 0, none⟩) tn cap1] 31)
      refine wpList_append_lies _ rfl (.tmp 23) (.tmp 25) 32 rfl (w.heap.size + 2) 31 ib _ 3 40 Try.underlying32 HI.out.2.1 HI.out.2.2.1 HI.out.2.2.2.1 HI.out.2.2.2.2 rfl (by decide) u3 els.length xs rfl ho2 ⟨w1.heap.size, 0, none⟩ 1 1 [.int .i64 b.mu, .int .i64 b.radius, .slice (some ⟨g1, 0, none⟩) tn cap1] rfl rfl
        (World.news_of_block (Box.mk (by simp [World.setCell]))) (fun u hu => by simp only [List.mem_cons, List.not_mem_nil, or_false] at hu; rcases hu with rfl | rfl | rfl <;> rfl) (by decide) (by unfold maxLen; omega) (by omega) (by simp [World.setCell]; omega) _ rfl ?_
      intro g cap w2 hown2 hgrow2 hat2 hlt2
      rw [HX.out.2.2.2.2.2.2.1] at hown2
      rw [HX.out.2.2.2.2.2.2.1]
      have hs2 := hgrow2.size
      simp only [World.size_alloc, set_size] at hs2
      have hu2 : Up w ((w1.setCell ⟨wr.heap.size, 2, none⟩ (.slice (some ⟨g1, 0, none⟩) tn cap1)).alloc (.cells #[.int .i64 b.mu, .int .i64 b.radius, .slice (some ⟨g1, 0, none⟩) tn cap1] 31)) := (hu1.setCell (by simp; omega) _).alloc _
      have hu3 : Up w w2 := .of_below (hu2.below.grown hgrow2 hu2.below.size (fun k e => by have := hol k e; omega))
      have bx02 := (((bx01.other (b' := wr.heap.size) (by omega) 2 (.slice (some ⟨g1, 0, none⟩) tn cap1)).alloc (.cells #[.int .i64 b.mu, .int .i64 b.radius, .slice (some ⟨g1, 0, none⟩) tn cap1] 31))).grown hgrow2 (fun e => by have := hol _ e; omega)
      have bx12 := (((bx11.other (b' := wr.heap.size) (by omega) 2 (.slice (some ⟨g1, 0, none⟩) tn cap1)).alloc (.cells #[.int .i64 b.mu, .int .i64 b.radius, .slice (some ⟨g1, 0, none⟩) tn cap1] 31))).grown hgrow2 (fun e => by have := hol _ e; omega)
      have hgne : ∀ x, x < w1.heap.size → u3.ownBlock ≠ some x → g ≠ x := fun x hx hne e => by
        subst e
        rcases hat2 with h | h
        · exact hne h
        · simp only [World.size_alloc, set_size] at h; omega
      have hone : u3.ownBlock ≠ some g1 := fun e => by have := hol _ e; omega
      have hrN : RowOf 3 (ROw (w.heap.size + 2) (.slice (some ⟨g, 0, none⟩) (k + 1) cap) w2) (els ++ [(b, g1)]) (xs ++ [.int .i64 b.mu, .int .i64 b.radius, .slice (some ⟨g1, 0, none⟩) tn cap1]) := by
        refine (hr1.mono fun x vs ⟨cap', e1, e2, e3, e4, e5⟩ => ⟨cap', e1, e2, e3.1, fun e => hgne x.2 (by omega) e4 (by simpa [Value.ownBlock] using e), ((e5.other (b := wr.heap.size) (by omega) _ _).alloc _).grown hgrow2 e4⟩).snoc (x := (b, g1)) ⟨cap1, by rw [htn], HX.out.2.2.2.2.2.2.2.2.2.1, (by omega), fun e => hgne g1 hlt1 hone (by simpa [Value.ownBlock] using e), ((hT1.other (b := wr.heap.size) (by omega) _ _).alloc _).grown hgrow2 hone⟩ rfl
      have hNew := hide (show OwS w (some ⟨b0, o0, none⟩) n c home bs (k + 1) (.slice (some ⟨g, 0, none⟩) (k + 1) cap) w2 from
        ⟨hu3, bx02, bx12, els ++ [(b, g1)], _, by rw [List.length_append]; simp only [List.length_cons, List.length_nil, HX.out.2.2.2.2.2.2.1]; exact hown2, hrN, by
          rw [List.map_append, HX.out.2.2.2.2.2.1, List.take_add_one, HX.out.2.2.2.2.2.2.2.2.1]; rfl, by rw [List.length_append, HX.out.2.2.2.2.2.2.1]; rfl, by
          rw [List.map_append, List.nodup_append]
          refine ⟨HX.out.2.2.2.2.2.2.2.1, by simp, fun x hx y hy => ?_⟩
          obtain rfl : y = g1 := by simpa using hy
          obtain ⟨z, hz, rfl⟩ := List.mem_map.1 hx
          obtain ⟨vs, _, _, _, e3, _⟩ := hr1.mem hz
          omega⟩)
      clear hown2 hgrow2 hat2 hlt2 hu1 ho1 bx01 bx11 hr1 hT1 hol htn ho2 hu2 hu3 bx02 bx12 hgne hone hrN z0 z1 z2 fz2 lz d0 d1 d2 HY x0 lx0 hs1 hs2 lx1
      go_wp2
      go_roundw
      case rel => exact ⟨k + 1, by go_num, by omega, hNew⟩
      case measure => simp [intOf]; omega
    · have hkb : decide ((k : Int) < n) = false := by simp; omega
      have hkn2 : decide (k < n) = false := by simp; omega
      have hkn : k = n := by omega
      obtain ⟨g, cap, rfl, hgb, hgl⟩ := ho.form (by omega)
      have f0 := bx0.frozen 0
      have x1 := bx0.cell 1 rfl
      have y0 := bx1.cell 0 rfl
      have y1 := bx1.cell 1 rfl
      have fy0 := bx1.frozen 0
      have fy1 := bx1.frozen 1
      have ly := bx1.lt
      have hg2 : w.heap.size + 2 ≤ g := (ho.lt g rfl).1
      have hm2' := hide hm2
      have HX := hide (And.intro hu (And.intro bx0 (And.intro bx1 (And.intro ho (And.intro hr (And.intro hm1 hm3))))))
      clear hJ hu bx0 bx1 ho hr hm1 hm2 hm3
      obtain ⟨m, hm⟩ : ∃ m, els.length = m := ⟨_, rfl⟩
      rw [hm]
      have hmm := hide hm
      clear hm
      go_wp2_with fail
      obtain ⟨hu, bx0, bx1, ho, hr, hm1, hm3⟩ := HX.out
      have hmn : m = n := by have h1 := hmm.out; have h2 := hm2'.out; omega
      rw [hmm.out, hmn] at ho
      rw [hmm.out, hmn] at hr
      rw [hmn]
      have hc0 : World.cell? (((wr.setCell ⟨w.heap.size, 0, none⟩ (.slice (some ⟨g, 0, none⟩) n cap)).setCell ⟨w.heap.size + 1, 0, none⟩ (.slice (some ⟨g, 0, none⟩) n cap)).setCell ⟨w.heap.size + 1, 1, none⟩ (.int .i64 home)) ⟨w.heap.size + 1, 0, none⟩ = some (.slice (some ⟨g, 0, none⟩) n cap) := (((bx1.other (by omega) 0 (.slice (some ⟨g, 0, none⟩) n cap)).set 0 (.slice (some ⟨g, 0, none⟩) n cap)).set 1 (.int .i64 home)).cell 0 rfl
      have hc1 : World.cell? (((wr.setCell ⟨w.heap.size, 0, none⟩ (.slice (some ⟨g, 0, none⟩) n cap)).setCell ⟨w.heap.size + 1, 0, none⟩ (.slice (some ⟨g, 0, none⟩) n cap)).setCell ⟨w.heap.size + 1, 1, none⟩ (.int .i64 home)) ⟨w.heap.size + 1, 1, none⟩ = some (.int .i64 home) := (((bx1.other (by omega) 0 (.slice (some ⟨g, 0, none⟩) n cap)).set 0 (.slice (some ⟨g, 0, none⟩) n cap)).set 1 (.int .i64 home)).cell 1 rfl
      obtain ⟨p, hp⟩ : Up w (((wr.setCell ⟨w.heap.size, 0, none⟩ (.slice (some ⟨g, 0, none⟩) n cap)).setCell ⟨w.heap.size + 1, 0, none⟩ (.slice (some ⟨g, 0, none⟩) n cap)).setCell ⟨w.heap.size + 1, 1, none⟩ (.int .i64 home)) :=
        ((hu.setCell (by simp) _).setCell (by simp) _).setCell (by simp) _
      have kept : ∀ {V : World} (b i : Nat) (v : Value), b < w.heap.size + 2 → V.ownsRow (w.heap.size + 2) 31 3 (.slice (some ⟨g, 0, none⟩) n cap) n xs → (V.setCell ⟨b, i, none⟩ v).ownsRow (w.heap.size + 2) 31 3 (.slice (some ⟨g, 0, none⟩) n cap) n xs := fun {V} b i v hb h =>
        h.kept (grown_set (grown_refl _ (some b)) i v) (.inr (fun e => by have := (h.lt b e).1; omega))
      refine bodyPost_ret (v := .agg #[.slice (some ⟨g, 0, none⟩) n cap, .int .i64 home]) (by simp [results, Try.results53, go_sem, hc0, hc1]) rfl ⟨g, cap, els, xs, p, rfl, hp, ?_, ?_, ?_, hm3⟩
      · exact kept _ _ _ (by omega) (kept _ _ _ (by omega) (kept _ _ _ (by omega) ho))
      · exact hr.mono fun x vs ⟨c', e1, e2, e3, e4, e5⟩ => ⟨c', e1, e2, e3, e4, ((e5.other (by omega) _ _).other (by omega) _ _).other (by omega) _ _⟩
      · rw [hm1, hkn, List.take_of_length_le (by rw [← HN.out]; exact Nat.le_refl _)]
end Go.Proofs.Ytbcgdhldkanecaa

/- The places of a world that a call owns, changed one by one. No conditions. -/
namespace Go.Proofs.Ytbcgdhldkanecaa
open Go.RowKit

theorem RowOf.alter {α : Type} {k : Nat} {R R' : α → List Value → Prop} {l : List α} {xs : List Value} (h : RowOf k R l xs) (i : Nat) (x' : α) (hx : ∀ x vs, l[i]? = some x → R x vs → R' x' vs)
    (hO : ∀ j x vs, j ≠ i → l[j]? = some x → R x vs → R' x vs) : RowOf k R' (l.set i x') xs := by
  obtain ⟨vss, h1, h2, h3⟩ := h
  refine ⟨vss, h1, by rw [List.length_set]; exact h2, fun j y hy => ?_⟩
  by_cases hj : j = i
  · subst hj
    have hlt : j < l.length := by have := (List.getElem?_eq_some_iff.1 hy).1; rwa [List.length_set] at this
    rw [List.getElem?_set_self hlt] at hy
    obtain rfl : x' = y := Option.some.inj hy
    obtain ⟨vs, h4, h5, h6⟩ := h3 j l[j] (List.getElem?_eq_getElem hlt)
    exact ⟨vs, h4, hx _ _ (List.getElem?_eq_getElem hlt) h5, h6⟩
  · rw [List.getElem?_set_ne (Ne.symm hj)] at hy
    obtain ⟨vs, h4, h5, h6⟩ := h3 j y hy
    exact ⟨vs, h4, hO j y vs hj hy h5, h6⟩
theorem TrIn.setx {W : World} {t : Nat} {tr : List (Int × Int)} (h : TrIn W t tr) {k : Nat} {p : Int × Int} (hk : tr[k]? = some p) (x : Int) : TrIn (W.setCell ⟨t, k * 2, none⟩ (.int .i64 x)) t (tr.set k (x, p.2)) := by
  obtain ⟨T, h1, h2⟩ := h
  refine ⟨_, h1.set (k * 2) (.int .i64 x), fun q r hr => ?_⟩
  have hlt : k < tr.length := (List.getElem?_eq_some_iff.1 hk).1
  have hT := (List.getElem?_eq_some_iff.1 hk)
  have hb := (Array.getElem?_eq_some_iff.1 (h2 k p hk).1).1
  by_cases hq : q = k
  · subst hq
    rw [List.getElem?_set_self hlt] at hr
    obtain rfl : (x, p.2) = r := Option.some.inj hr
    exact ⟨Array.getElem?_setIfInBounds_self_of_lt hb, by rw [Array.getElem?_setIfInBounds_ne (by omega)]; exact (h2 q p hk).2⟩
  · rw [List.getElem?_set_ne (Ne.symm hq)] at hr
    rw [Array.getElem?_setIfInBounds_ne (by omega), Array.getElem?_setIfInBounds_ne (by omega)]
    exact h2 q r hr
theorem TrIn.sety {W : World} {t : Nat} {tr : List (Int × Int)} (h : TrIn W t tr) {k : Nat} {p : Int × Int} (hk : tr[k]? = some p) (y : Int) : TrIn (W.setCell ⟨t, k * 2 + 1, none⟩ (.int .i64 y)) t (tr.set k (p.1, y)) := by
  obtain ⟨T, h1, h2⟩ := h
  refine ⟨_, h1.set (k * 2 + 1) (.int .i64 y), fun q r hr => ?_⟩
  have hlt : k < tr.length := (List.getElem?_eq_some_iff.1 hk).1
  have hb := (Array.getElem?_eq_some_iff.1 (h2 k p hk).2).1
  by_cases hq : q = k
  · subst hq
    rw [List.getElem?_set_self hlt] at hr
    obtain rfl : (p.1, y) = r := Option.some.inj hr
    exact ⟨by rw [Array.getElem?_setIfInBounds_ne (by omega)]; exact (h2 q p hk).1, Array.getElem?_setIfInBounds_self_of_lt hb⟩
  · rw [List.getElem?_set_ne (Ne.symm hq)] at hr
    rw [Array.getElem?_setIfInBounds_ne (by omega), Array.getElem?_setIfInBounds_ne (by omega)]
    exact h2 q r hr
theorem nodup_ne {els : List (Bod × Nat)} (hd : (els.map Prod.snd).Nodup) {i j : Nat} {x y : Bod × Nat} (hi : els[i]? = some x) (hj : els[j]? = some y) (hne : j ≠ i) : y.2 ≠ x.2 := fun e => by
  have h1 : (els.map Prod.snd)[i]? = some x.2 := by simp [hi]
  have h2 : (els.map Prod.snd)[j]? = some y.2 := by simp [hj]
  have hjl := (List.getElem?_eq_some_iff.1 h2).1
  exact hne ((List.getElem?_inj hjl hd).1 (by rw [h1, h2, e]))
/-- a world that a call owns: the row of its bodies, the tracks -/
def OwnsW (base : Nat) (g n cap : Nat) (W : World) (els : List (Bod × Nat)) (xs : List Value) : Prop :=
  W.ownsRow base 31 3 (.slice (some ⟨g, 0, none⟩) n cap) n xs ∧ RowOf 3 (ROw base (.slice (some ⟨g, 0, none⟩) n cap) W) els xs ∧ (els.map Prod.snd).Nodup ∧ els.length = n
theorem OwnsW.alter {base g n cap : Nat} {W W' : World} {els : List (Bod × Nat)} {xs : List Value} (h : OwnsW base g n cap W els xs) {i : Nat} {b b' : Bod} {t : Nat} (hi : els[i]? = some (b, t)) (o : Nat) (v : Value) (hW : W' = W.setCell ⟨t, o, none⟩ v)
    (hb : b'.mu = b.mu ∧ b'.radius = b.radius ∧ b'.track.length = b.track.length) (hT : TrIn W t b.track → TrIn W' t b'.track) : OwnsW base g n cap W' (els.set i (b', t)) xs := by
  subst hW
  obtain ⟨h1, h2, h3, h4⟩ := h
  have hlt : i < els.length := (List.getElem?_eq_some_iff.1 hi).1
  obtain ⟨vs, _, _, _, r3, r4, _⟩ := h2.mem (List.mem_of_getElem? hi)
  refine ⟨h1.kept (grown_set (grown_refl _ (some t)) o v) (.inr (fun e => r4 e)), ?_, ?_, by rw [List.length_set]; exact h4⟩
  · refine h2.alter i (b', t) (fun x vs hx hR => ?_) (fun j x vs hj hx hR => ?_)
    · rw [hi] at hx
      obtain rfl : (b, t) = x := Option.some.inj hx
      obtain ⟨c, e1, e2, e3, e4, e5⟩ := hR
      exact ⟨c, by rw [hb.1, hb.2.1, hb.2.2]; exact e1, by rw [hb.1, hb.2.1]; exact e2, e3, e4, hT e5⟩
    · obtain ⟨c, e1, e2, e3, e4, e5⟩ := hR
      exact ⟨c, e1, e2, e3, e4, e5.other (nodup_ne h3 hi hx hj) _ _⟩
  · rw [List.map_set]
    have : (els.map Prod.snd).set i t = els.map Prod.snd := by
      apply List.ext_getElem?
      intro j
      by_cases hj : i = j
      · subst hj
        rw [List.getElem?_set_self (by simpa using hlt)]
        simp [hi]
      · rw [List.getElem?_set_ne hj]
    rw [this]
    exact h3
theorem OwnsW.at {base g n cap : Nat} {W : World} {els : List (Bod × Nat)} {xs : List Value} (h : OwnsW base g n cap W els xs) {i : Nat} {b : Bod} {t : Nat} (hi : els[i]? = some (b, t)) :
    (∃ c, W.cell? ⟨g, i * 3 + 2, none⟩ = some (.slice (some ⟨t, 0, none⟩) b.track.length c)) ∧ g < W.heap.size ∧ base ≤ g ∧ base ≤ t ∧ t < W.heap.size ∧ (∀ j, W.frozen? ⟨t, j, none⟩ = false) ∧
      ∀ k p, b.track[k]? = some p → W.cell? ⟨t, k * 2, none⟩ = some (.int .i64 p.1) ∧ W.cell? ⟨t, k * 2 + 1, none⟩ = some (.int .i64 p.2) := by
  obtain ⟨h1, h2, h3, h4⟩ := h
  have hlt : i < els.length := (List.getElem?_eq_some_iff.1 hi).1
  obtain ⟨vs, ⟨c, e1, _, e3, _, T, e5, e6⟩, _, hc⟩ := h2.cell hi
  subst e1
  have hcell := h1.cellAt (i * 3 + 2) (by omega)
  exact ⟨⟨c, hcell.trans (hc 2 _ rfl)⟩, (h1.lt g rfl).2, (h1.lt g rfl).1, e3, e5.lt, fun j => e5.frozen j, fun k p hp => ⟨e5.cell _ (e6 k p hp).1, e5.cell _ (e6 k p hp).2⟩⟩
theorem OwnsW.up {base g n cap : Nat} {W W' : World} {els : List (Bod × Nat)} {xs : List Value} (h : OwnsW base g n cap W els xs) (hu : Up W W') : OwnsW base g n cap W' els xs :=
  ⟨h.1.kept (grown_up (grown_refl _ none) hu) (.inr (fun e => by cases e)), h.2.1.mono fun _ _ ⟨c, e1, e2, e3, e4, e5⟩ => ⟨c, e1, e2, e3, e4, e5.up hu⟩, h.2.2⟩
theorem OwnsW.other {base g n cap : Nat} {W : World} {els : List (Bod × Nat)} {xs : List Value} (h : OwnsW base g n cap W els xs) {b : Nat} (hb : b < base) (i : Nat) (v : Value) : OwnsW base g n cap (W.setCell ⟨b, i, none⟩ v) els xs :=
  ⟨h.1.kept (grown_set (grown_refl _ (some b)) i v) (.inr (fun e => by have := (h.1.lt b e).1; omega)), h.2.1.mono fun _ _ ⟨c, e1, e2, e3, e4, e5⟩ => ⟨c, e1, e2, e3, e4, e5.other (by omega) _ _⟩, h.2.2⟩
/-- as a world that lies in memory -/
theorem OwnsW.bods {base g n cap : Nat} {W : World} {els : List (Bod × Nat)} {xs : List Value} (h : OwnsW base g n cap W els xs) (hs : ∀ x ∈ els, SmallB x.1) (hn : n ≤ 3) : Bods (fun b => base ≤ b) W (.slice (some ⟨g, 0, none⟩) n cap) (els.map Prod.fst) := by
  obtain ⟨h1, h2, h3, h4⟩ := h
  have ho : W.ownsRow base 31 3 (.slice (some ⟨g, 0, none⟩) n cap) (els.map Prod.fst).length xs := by rw [List.length_map, h4]; exact h1
  have hr : RowOf 3 (RBod (fun b => base ≤ b) W) (els.map Prod.fst) xs := by
    obtain ⟨vss, k1, k2, k3⟩ := h2
    refine ⟨vss, k1, by rw [List.length_map]; exact k2, fun i x hx => ?_⟩
    obtain ⟨y, hy, rfl⟩ : ∃ y, els[i]? = some y ∧ y.1 = x := by
      rw [List.getElem?_map] at hx
      cases hy : els[i]? with
      | none => rw [hy] at hx; cases hx
      | some y => rw [hy] at hx; exact ⟨y, rfl, by simpa using hx⟩
    obtain ⟨vs, e1, ⟨c, e2, e3, e4, _, T, e5, e6⟩, e7⟩ := k3 i y hy
    have hsm := hs y (List.mem_of_getElem? hy)
    refine ⟨vs, e1, ⟨_, e2, e3.1, e3.2, ⟨_, c, rfl, by have := hsm.2.2.1; omega, fun _ => ⟨y.2, 0, rfl, e4, e5.lt, fun k p hp => ⟨[.int .i64 p.1, .int .i64 p.2], ⟨rfl, ?_, ?_⟩, rfl, fun j u hu => ?_⟩⟩⟩⟩, e7⟩
    · have := hsm.2.2.2 p (List.mem_of_getElem? hp); exact ⟨by omega, by omega⟩
    · have := hsm.2.2.2 p (List.mem_of_getElem? hp); exact ⟨by omega, by omega⟩
    · rw [Nat.zero_add]
      match j, hu with
      | 0, hu => cases hu; exact e5.cell _ (e6 k p hp).1
      | 1, hu => cases hu; exact e5.cell _ (e6 k p hp).2
  exact Lies.ofRow ho hr (fun g' e => (ho.lt g' e).1) (by rw [List.length_map, h4]; omega)

/-! ### places changed one by one -/
def mapK (m : Int × Int → Int × Int) (k : Nat) (tr : List (Int × Int)) : List (Int × Int) := tr.mapIdx fun q p => if q < k then m p else p
theorem mapK_at (m : Int × Int → Int × Int) (k : Nat) (tr : List (Int × Int)) (q : Nat) : (mapK m k tr)[q]? = (tr[q]?).map fun p => if q < k then m p else p := by unfold mapK; rw [List.getElem?_mapIdx]
theorem mapK_zero (m : Int × Int → Int × Int) (tr : List (Int × Int)) : mapK m 0 tr = tr := by
  apply List.ext_getElem?
  intro q
  rw [mapK_at]
  simp
theorem mapK_all (m : Int × Int → Int × Int) (tr : List (Int × Int)) : mapK m tr.length tr = tr.map m := by
  apply List.ext_getElem?
  intro q
  rw [mapK_at, List.getElem?_map]
  cases h : tr[q]? with
  | none => rfl
  | some p => simp [(List.getElem?_eq_some_iff.1 h).1]
theorem mapK_len (m : Int × Int → Int × Int) (k : Nat) (tr : List (Int × Int)) : (mapK m k tr).length = tr.length := by unfold mapK; simp
theorem mapK_set (m : Int × Int → Int × Int) {k : Nat} {tr : List (Int × Int)} {p : Int × Int} (h : tr[k]? = some p) : (mapK m k tr).set k (m p) = mapK m (k + 1) tr := by
  have hk := (List.getElem?_eq_some_iff.1 h).1
  apply List.ext_getElem?
  intro q
  by_cases hq : k = q
  · subst hq
    rw [List.getElem?_set_self (by rw [mapK_len]; exact hk), mapK_at, h]
    simp
  · rw [List.getElem?_set_ne hq, mapK_at, mapK_at]
    cases tr[q]? with
    | none => rfl
    | some r =>
      have e : (q < k) = (q < k + 1) := propext ⟨fun h => by omega, fun h => by omega⟩
      simp [e]
def trK (m : Int × Int → Int × Int) (i k j : Nat) (tr : List (Int × Int)) : List (Int × Int) := if j < i then tr.map m else if j = i then mapK m k tr else tr
/-- bodies up to number i are done, of number i the first k places -/
def InvK (m : Int × Int → Int × Int) (bs : List Bod) (i k : Nat) (els : List (Bod × Nat)) : Prop := els.length = bs.length ∧ ∀ (j : Nat) (b : Bod), bs[j]? = some b → ∃ t : Nat, els[j]? = some ({ b with track := trK m i k j b.track }, t)
theorem InvK.start (m : Int × Int → Int × Int) {bs : List Bod} {els : List (Bod × Nat)} (h : els.map Prod.fst = bs) : InvK m bs 0 0 els := by
  subst h
  refine ⟨by simp, fun j b hb => ?_⟩
  rw [List.getElem?_map] at hb
  cases hy : els[j]? with
  | none => rw [hy] at hb; cases hb
  | some y =>
    rw [hy] at hb
    obtain rfl : y.1 = b := by simpa using hb
    refine ⟨y.2, ?_⟩
    have e : trK m 0 0 j y.1.track = y.1.track := by
      unfold trK
      rw [if_neg (by omega)]
      split
      · exact mapK_zero _ _
      · rfl
    rw [e]
theorem InvK.step {m : Int × Int → Int × Int} {bs : List Bod} {i k : Nat} {els : List (Bod × Nat)} (h : InvK m bs i k els) {b : Bod} {t : Nat} {p : Int × Int} (hb : bs[i]? = some b) (hp : b.track[k]? = some p) :
    InvK m bs i (k + 1) (els.set i ({ b with track := (mapK m k b.track).set k (m p) }, t)) := by
  refine ⟨by rw [List.length_set]; exact h.1, fun j c hc => ?_⟩
  by_cases hj : i = j
  · subst hj
    rw [hb] at hc
    obtain rfl : b = c := Option.some.inj hc
    refine ⟨t, ?_⟩
    rw [List.getElem?_set_self (by rw [h.1]; exact (List.getElem?_eq_some_iff.1 hb).1), mapK_set m hp]
    unfold trK
    rw [if_neg (by omega), if_pos rfl]
  · obtain ⟨t', ht⟩ := h.2 j c hc
    refine ⟨t', ?_⟩
    rw [List.getElem?_set_ne hj, ht]
    unfold trK
    split
    · rfl
    · rw [if_neg (fun e => hj e.symm), if_neg (fun e => hj e.symm)]
theorem InvK.next {m : Int × Int → Int × Int} {bs : List Bod} {i : Nat} {els : List (Bod × Nat)} {b : Bod} (hb : bs[i]? = some b) (h : InvK m bs i b.track.length els) : InvK m bs (i + 1) 0 els := by
  refine ⟨h.1, fun j c hc => ?_⟩
  obtain ⟨t, ht⟩ := h.2 j c hc
  refine ⟨t, ?_⟩
  rw [ht]
  have e : trK m i b.track.length j c.track = trK m (i + 1) 0 j c.track := by
    unfold trK
    rcases Nat.lt_trichotomy j i with h1 | rfl | h1
    · rw [if_pos h1, if_pos (by omega)]
    · rw [hb] at hc
      obtain rfl : b = c := Option.some.inj hc
      rw [if_neg (by omega), if_pos rfl, if_pos (by omega), mapK_all]
    · rw [if_neg (by omega), if_neg (by omega), if_neg (by omega)]
      split
      · exact (mapK_zero _ _).symm
      · rfl
  rw [e]
theorem InvK.done {m : Int × Int → Int × Int} {bs : List Bod} {els : List (Bod × Nat)} (h : InvK m bs bs.length 0 els) : els.map Prod.fst = bs.map fun b => { b with track := b.track.map m } := by
  apply List.ext_getElem?
  intro j
  rw [List.getElem?_map, List.getElem?_map]
  cases hb : bs[j]? with
  | none =>
    have : bs.length ≤ j := List.getElem?_eq_none_iff.1 hb
    rw [List.getElem?_eq_none_iff.2 (by rw [h.1]; exact this)]
    rfl
  | some b =>
    obtain ⟨t, ht⟩ := h.2 j b hb
    rw [ht]
    have hj := (List.getElem?_eq_some_iff.1 hb).1
    show some _ = some _
    unfold trK
    rw [if_pos hj]
theorem InvK.at {m : Int × Int → Int × Int} {bs : List Bod} {i k : Nat} {els : List (Bod × Nat)} (h : InvK m bs i k els) {b : Bod} (hb : bs[i]? = some b) : ∃ t, els[i]? = some ({ b with track := mapK m k b.track }, t) := by
  obtain ⟨t, ht⟩ := h.2 i b hb
  refine ⟨t, ?_⟩
  rw [ht]
  unfold trK
  rw [if_neg (by omega), if_pos rfl]
end Go.Proofs.Ytbcgdhldkanecaa

/- Worlds that are mirrored and turned, in memory: they lie in new blocks. Conditions: the world is small. -/
namespace Go.Proofs.Ytbcgdhldkanecaa
open Go.RowKit

theorem othersign_any (a b : Int) (a0 : -1000000000000 ≤ a) (a1 : a ≤ 1000000000000) (b0 : -1000000000000 ≤ b) (b1 : b ≤ 1000000000000) (w : World) : Gives Try.prog 27 #[.agg #[.int .i64 (a), .int .i64 (b)]] w (.agg #[.int .i64 ((-b)), .int .i64 ((-a))]) := by
  (unfold Gives; go_enter Try.func27, Try.ntmps27)
  go_wp2
  all_goals (refine bodyPost_give (by repeat (first | with_reducible exact Up.refl _ | with_reducible apply Up.plus | apply Up.ext | apply Up.alloc | apply Up.drew | (refine Up.setCell ?_ (by simp; try omega) _))) rfl ⟨_, (by simp [results, Try.results27, go_sem]; rfl), ?_⟩)
  all_goals rfl
set_option maxRecDepth 100000 in
theorem turn_any (a : Ar) (h : OrdA 1000000000 a) (w : World) : Gives Try.prog 24 #[.agg #[.int .i64 a.1, .int .i64 a.2.1, .int .i64 a.2.2.1, .int .i64 a.2.2.2]] w (.agg #[.int .i64 (turnA a).1, .int .i64 (turnA a).2.1, .int .i64 (turnA a).2.2.1, .int .i64 (turnA a).2.2.2]) := by
  obtain ⟨a1, a2, a3, a4⟩ := a
  obtain ⟨⟨h1, h2, h3⟩, h4, h5, h6⟩ := h
  simp only [arX, arY] at h1 h2 h3 h4 h5 h6
  (unfold Gives; go_enter Try.func24, Try.ntmps24)
  go_wp2
  ((first | with_reducible refine wp_region_ext_tail2 1 (by kernel_rfl) (by kernel_rfl) ?_ | refine wp_region_ext_tail 1 (by kernel_rfl) (by kernel_rfl) ?_); simp only [List.length_cons, List.length_nil, Nat.reduceAdd, Nat.reduceSub, List.take_succ_cons, List.take_zero, List.drop_succ_cons, List.drop_zero]; (repeat (go_big_quiet_step ((go_at_call 27; with_reducible exact Gives.inRegion (othersign_any _ _ (by omega) (by omega) (by omega) (by omega) _))))); refine wpQuiet_nil ?_; intro _ hw'; obtain ⟨_, hw''⟩ := hw'; subst hw'')
  go_wp2
  all_goals (refine bodyPost_give (by repeat (first | with_reducible exact Up.refl _ | with_reducible apply Up.plus | apply Up.ext | apply Up.alloc | apply Up.drew | (refine Up.setCell ?_ (by simp; try omega) _))) rfl ⟨_, (by simp [results, Try.results24, go_sem]; rfl), ?_⟩)
  all_goals rfl

theorem OwnsW.alter2 {base g n cap : Nat} {W W' : World} {els : List (Bod × Nat)} {xs : List Value} (h : OwnsW base g n cap W els xs) {i : Nat} {b : Bod} {t : Nat} (hi : els[i]? = some (b, t)) {k : Nat} {p : Int × Int} (hk : b.track[k]? = some p) (x y : Int)
    (hW : W' = (W.setCell ⟨t, k * 2, none⟩ (.int .i64 x)).setCell ⟨t, k * 2 + 1, none⟩ (.int .i64 y)) : OwnsW base g n cap W' (els.set i ({ b with track := b.track.set k (x, y) }, t)) xs := by
  have hlt : i < els.length := (List.getElem?_eq_some_iff.1 hi).1
  have hkl : k < b.track.length := (List.getElem?_eq_some_iff.1 hk).1
  subst hW
  have h1 := h.alter (b' := { b with track := b.track.set k (x, p.2) }) hi (k * 2) (.int .i64 x) rfl ⟨rfl, rfl, by simp⟩ (fun hT => hT.setx hk x)
  have h2 := h1.alter (b := { b with track := b.track.set k (x, p.2) }) (b' := { b with track := (b.track.set k (x, p.2)).set k (x, y) }) (t := t) (List.getElem?_set_self hlt) (k * 2 + 1) (.int .i64 y) rfl ⟨rfl, rfl, by simp⟩
    (fun hT => hT.sety (p := (x, p.2)) (List.getElem?_set_self hkl) y)
  rw [List.set_set, List.set_set] at h2
  exact h2
/-- a copy whose places are being changed: bodies up to i are done, of body i the first k places -/
def MrS (m : Int × Int → Int × Int) (w : World) (n : Nat) (home : Int) (bs : List Bod) (g cap : Nat) (xs : List Value) (i k : Nat) (wr : World) : Prop :=
  Up w wr ∧ Box wr w.heap.size #[.slice (some ⟨g, 0, none⟩) n cap, .int .i64 home] 34 ∧ Box wr (w.heap.size + 1) #[.slice none 0 0, .int .i64 0] 34 ∧
    ∃ els, OwnsW (w.heap.size + 1 + 1 + 2) g n cap wr els xs ∧ InvK m bs i k els

set_option maxRecDepth 100000 in
set_option maxHeartbeats 4000000 in
theorem mirrored_any {K : Nat → Prop} {w : World} {a : Option Addr} {n c : Nat} {bs : List Bod} {home : Int} (hl : Bods K w (.slice a n c) bs) (hb : ∀ b ∈ bs, SmallB b) (hn1 : 1 ≤ bs.length ∧ bs.length ≤ 3) :
    Calls Try.prog 26 #[.agg #[.slice a n c, .int .i64 home]] w fun e W' => ∃ (g cap : Nat) (p : Ext), e = .returned (.agg #[.slice (some ⟨g, 0, none⟩) bs.length cap, .int .i64 home]) ∧ W' = ext w p ∧ Bods (fun b => w.heap.size ≤ b) W' (.slice (some ⟨g, 0, none⟩) bs.length cap) (bs.map mirB) := by
  have hn := (Bods.at hl).1
  have KO := hide (fun W (hu : Up w W) => ownworld_any (home := home) (hl.keeps (hu.keeps K)) hb hn1)
  rw [← hn] at hn1 KO ⊢
  have HN := hide hn
  have HB := hide hb
  clear hl hb hn
  go_enter Try.func26, Try.ntmps26
  go_wp2_with fail
  go_at_call 53
  refine (KO.out _ (by repeat (first | with_reducible exact Up.refl _ | with_reducible apply Up.plus | apply Up.ext | apply Up.alloc | apply Up.drew | (refine Up.setCell ?_ (by simp; try omega) _)))).mono ?_
  rintro _ V ⟨g, cap, els, xs, p, rfl, hV, ho, hr, hm, hd⟩
  have hW2 : Up ((w.alloc (.cells #[.slice a n c, .int .i64 home] 34)).alloc (.cells #[.slice none 0 0, .int .i64 0] 34)) V := ⟨p, hV⟩
  have huV : Up w V := (((Up.refl w).alloc _).alloc _).trans hW2
  have bx : Box V w.heap.size #[.slice a n c, .int .i64 home] 34 := ((Box.mk rfl).alloc _).up hW2
  have bz : Box V (w.heap.size + 1) #[.slice none 0 0, .int .i64 0] 34 := (Box.mk (by simp)).up hW2
  have hO : OwnsW (w.heap.size + 1 + 1 + 2) g n cap V els xs := ⟨by simpa using ho, by simpa using hr, hd, by rw [← List.length_map (f := Prod.fst), hm]; exact HN.out.symm⟩
  have hI := InvK.start (fun p => (-p.1, p.2)) hm
  have hS := hide (show MrS (fun p => (-p.1, p.2)) w n home bs g cap xs 0 0 ((V.setCell ⟨w.heap.size, 0, none⟩ (.slice (some ⟨g, 0, none⟩) n cap)).setCell ⟨w.heap.size, 1, none⟩ (.int .i64 home)) from
    ⟨(huV.setCell (by simp) _).setCell (by simp) _, (bx.set 0 (.slice (some ⟨g, 0, none⟩) n cap)).set 1 (.int .i64 home), (bz.other (by omega) _ _).other (by omega) _ _, els, (hO.other (by omega) _ _).other (by omega) _ _, hI⟩)
  have x0 := bx.cell 0 rfl
  have x1 := bx.cell 1 rfl
  have lx := bx.lt
  have fx0 := bx.frozen 0
  have fx1 := bx.frozen 1
  clear KO hV ho hr hm hd hW2 huV bx bz hO hI
  go_wp2_with fail
  go_loopw [3] (fun s3 wr => ∃ i : Nat, s3 = .int .i64 i ∧ i ≤ n ∧ Hid (MrS (fun p => (-p.1, p.2)) w n home bs g cap xs i 0 wr)) (fun s _ => n - (intOf s).toNat)
  case atStart => exact ⟨0, by go_num, by omega, hS⟩
  case round =>
    obtain ⟨i, rfl, hi, hM⟩ := hrel
    clear hS x0 x1 lx fx0 fx1
    obtain ⟨hu, bx, bz, els, hO, hI⟩ := hM.out
    have x0 := bx.cell 0 rfl
    have x1 := bx.cell 1 rfl
    have lx := bx.lt
    by_cases hlt : i < n
    · have hib : decide ((i : Int) < n) = true := by simp; omega
      have hin : decide (i < n) = true := by simp; omega
      obtain ⟨b, hbi⟩ : ∃ b, bs[i]? = some b := ⟨_, List.getElem?_eq_getElem (by rw [← HN.out]; exact hlt)⟩
      have hsb := HB.out b (List.mem_of_getElem? hbi)
      obtain ⟨L, hL⟩ : ∃ L, b.track.length = L := ⟨_, rfl⟩
      have hL4 := hsb.2.2.1
      rw [hL] at hL4
      have HL := hide (And.intro hbi (And.intro hsb hL))
      clear hu bx bz hO hI hbi hsb hL
      go_wp2_with fail
      go_loopw [4] (fun s4 wr => ∃ k : Nat, s4 = .int .i64 k ∧ k ≤ L ∧ Hid (MrS (fun p => (-p.1, p.2)) w n home bs g cap xs i k wr)) (fun s _ => L - (intOf s).toNat)
      case atStart => exact ⟨0, by go_num, by omega, hM⟩
      case round =>
        obtain ⟨k, rfl, hk, hJ⟩ := hrel
        clear hM x0 x1 lx
        obtain ⟨hu, bx, bz, els, hO, hI⟩ := hJ.out
        have x0 := bx.cell 0 rfl
        have x1 := bx.cell 1 rfl
        have lx := bx.lt
        obtain ⟨t, ht⟩ := hI.at HL.out.1
        obtain ⟨⟨ct, cg⟩, lg, hgb, htb, lt, ft, hcells⟩ := hO.at ht
        rw [mapK_len, HL.out.2.2] at cg
        by_cases hlk : k < L
        · have hkb : decide ((k : Int) < L) = true := by simp; omega
          have hkn : decide (k < L) = true := by simp; omega
          obtain ⟨⟨px, py⟩, hp⟩ : ∃ p, b.track[k]? = some p := ⟨_, List.getElem?_eq_getElem (by rw [HL.out.2.2]; exact hlk)⟩
          have hpm : (mapK (fun p => (-p.1, p.2)) k b.track)[k]? = some (px, py) := by rw [mapK_at, hp]; simp
          obtain ⟨c0, c1⟩ := hcells k _ hpm
          have hps := HL.out.2.1.2.2.2 _ (List.mem_of_getElem? hp)
          simp only at hps c0 c1
          have HK := hide (And.intro hu (And.intro bx (And.intro bz (And.intro hO (And.intro hI (And.intro ht (And.intro hp hpm)))))))
          clear hJ hu bx bz hO hI ht hp hpm hcells ft
          go_wp2_with fail
          refine wp_region_float (al := []) (mv := fun _ => false) [20] [0, 1, 2, 3, 4, 5, 6, 7, 8, 9, 10, 11, 12, 13, 14, 15, 16, 17, 18, 19] (by kernel_rfl) (by kernel_rfl) makes0 (cls_ext _) (by first | exact drew_in2 _ _ | exact drew_in _) (Nat.le_refl _) ?_
          simp only [withOps, List.filterMap_cons, List.filterMap_nil, List.getElem?_toArray, List.getElem?_cons_zero, List.getElem?_cons_succ, Option.map_some]
          (repeat (first | (apply walkF_pure (base := fun p : Ext => ext _ p) rfl rfl rfl (by kernel_rfl); · (intro px K hK; go_big_quiet_op; first | exact hK | (apply Exists.intro; refine ⟨fun _ => ?_, ?_⟩; (· (fail)); exact hK))) | (apply walkF_skip rfl; simp only [Act.put, List.setIfInBounds_toArray, List.set_cons_zero, List.set_cons_succ])))
          refine walkF_nil (end0 (fun U hU => ?_))
          (try simp only [List.filterMap_cons, List.filterMap_nil, List.getElem?_toArray, List.getElem?_cons_zero, List.getElem?_cons_succ])
          have hU1 : Up wr U := hU
          obtain ⟨_, _, _, _, lt', ft, hcells⟩ := (HK.out.2.2.2.1.up hU1).at HK.out.2.2.2.2.2.1
          obtain ⟨d0, _⟩ := hcells k _ HK.out.2.2.2.2.2.2.2
          have f0 := ft (k * 2)
          simp only at d0
          have hN := hide (show MrS (fun p => (-p.1, p.2)) w n home bs g cap xs i (k + 1) (U.setCell ⟨t, k * 2, none⟩ (.int .i64 (-px))) from
            ⟨(HK.out.1.trans hU1).setCell (by simp; omega) _, (HK.out.2.1.up hU1).other (by omega) _ _, (HK.out.2.2.1.up hU1).other (by omega) _ _, _,
              (HK.out.2.2.2.1.up hU1).alter (b' := { b with track := (mapK (fun p => (-p.1, p.2)) k b.track).set k (-px, py) }) HK.out.2.2.2.2.2.1 (k * 2) (.int .i64 (-px)) rfl ⟨rfl, rfl, by simp⟩ (fun hT => hT.setx HK.out.2.2.2.2.2.2.2 (-px)), HK.out.2.2.2.2.1.step HL.out.1 HK.out.2.2.2.2.2.2.1⟩)
          clear hU hU1 hcells ft HK x0 x1 lx cg lg lt c0 c1
          go_wp2_with fail
          go_roundw
          case rel => exact ⟨k + 1, by go_num, by omega, hN⟩
          case measure => simp [intOf]; omega
        · have hkb : decide ((k : Int) < L) = false := by simp; omega
          have hkn : decide (k < L) = false := by simp; omega
          have hkL : k = b.track.length := by rw [HL.out.2.2]; omega
          have hN := hide (show MrS (fun p => (-p.1, p.2)) w n home bs g cap xs (i + 1) 0 wr from ⟨hu, bx, bz, els, hO, InvK.next HL.out.1 (by rw [← hkL]; exact hI)⟩)
          clear hJ hu bx bz hO hI hcells ft ht hkL
          go_wp2_with fail
          go_roundw
          case rel => exact ⟨i + 1, by go_num, by omega, hN⟩
          case measure => simp [intOf]; omega
    · have hib : decide ((i : Int) < n) = false := by simp; omega
      have hin : i = n := by omega
      have z0 := bz.cell 0 rfl
      have z1 := bz.cell 1 rfl
      have lz := bz.lt
      have fz0 := bz.frozen 0
      have fz1 := bz.frozen 1
      rw [hin] at hI
      rw [HN.out] at hI
      have hE := hI.done
      have hBo := hO.bods (fun x hx => by
        have : x.1 ∈ bs.map mirB := by
          rw [show bs.map mirB = els.map Prod.fst from hE.symm]
          exact List.mem_map.2 ⟨x, hx, rfl⟩
        obtain ⟨c', hc', e⟩ := List.mem_map.1 this
        rw [← e]
        exact (HB.out c' hc').mir) hn1.2
      rw [show els.map Prod.fst = bs.map mirB from hE] at hBo
      have hK : Keeps (fun b => w.heap.size + 1 + 1 + 2 ≤ b) wr ((wr.setCell ⟨w.heap.size + 1, 0, none⟩ (.slice (some ⟨g, 0, none⟩) n cap)).setCell ⟨w.heap.size + 1, 1, none⟩ (.int .i64 home)) := ((Keeps.refl _ _).set (by omega) _ _).set (by omega) _ _
      have hF := hide (Bods.mono (K' := fun b => w.heap.size ≤ b) (hBo.keeps hK) fun b _ hb => by omega)
      have hUF := hide (show Up w ((wr.setCell ⟨w.heap.size + 1, 0, none⟩ (.slice (some ⟨g, 0, none⟩) n cap)).setCell ⟨w.heap.size + 1, 1, none⟩ (.int .i64 home)) from (hu.setCell (by simp) _).setCell (by simp) _)
      have hc0 := hide (((bz.set 0 (.slice (some ⟨g, 0, none⟩) n cap)).set 1 (.int .i64 home)).cell 0 rfl)
      have hc1 := hide (((bz.set 0 (.slice (some ⟨g, 0, none⟩) n cap)).set 1 (.int .i64 home)).cell 1 rfl)
      clear hM hu bx bz hO hI hE hBo hK
      go_wp2_with fail
      obtain ⟨p, hp⟩ := hUF.out
      exact bodyPost_ret (v := .agg #[.slice (some ⟨g, 0, none⟩) n cap, .int .i64 home]) (by simp [results, Try.results26, go_sem, hc0.out, hc1.out]) rfl ⟨g, cap, p, rfl, hp, hF.out⟩

set_option maxRecDepth 100000 in
set_option maxHeartbeats 4000000 in
theorem turned_any {K : Nat → Prop} {w : World} {a : Option Addr} {n c : Nat} {bs : List Bod} {home : Int} (hl : Bods K w (.slice a n c) bs) (hb : ∀ b ∈ bs, SmallB b) (hn1 : 1 ≤ bs.length ∧ bs.length ≤ 3) :
    Calls Try.prog 23 #[.agg #[.slice a n c, .int .i64 home]] w fun e W' => ∃ (g cap : Nat) (p : Ext), e = .returned (.agg #[.slice (some ⟨g, 0, none⟩) bs.length cap, .int .i64 home]) ∧ W' = ext w p ∧ Bods (fun b => w.heap.size ≤ b) W' (.slice (some ⟨g, 0, none⟩) bs.length cap) (bs.map turnB) := by
  have hn := (Bods.at hl).1
  have KO := hide (fun W (hu : Up w W) => ownworld_any (home := home) (hl.keeps (hu.keeps K)) hb hn1)
  rw [← hn] at hn1 KO ⊢
  have HN := hide hn
  have HB := hide hb
  clear hl hb hn
  go_enter Try.func23, Try.ntmps23
  go_wp2_with fail
  go_at_call 53
  refine (KO.out _ (by repeat (first | with_reducible exact Up.refl _ | with_reducible apply Up.plus | apply Up.ext | apply Up.alloc | apply Up.drew | (refine Up.setCell ?_ (by simp; try omega) _)))).mono ?_
  rintro _ V ⟨g, cap, els, xs, p, rfl, hV, ho, hr, hm, hd⟩
  have hW2 : Up ((w.alloc (.cells #[.slice a n c, .int .i64 home] 34)).alloc (.cells #[.slice none 0 0, .int .i64 0] 34)) V := ⟨p, hV⟩
  have huV : Up w V := (((Up.refl w).alloc _).alloc _).trans hW2
  have bx : Box V w.heap.size #[.slice a n c, .int .i64 home] 34 := ((Box.mk rfl).alloc _).up hW2
  have bz : Box V (w.heap.size + 1) #[.slice none 0 0, .int .i64 0] 34 := (Box.mk (by simp)).up hW2
  have hO : OwnsW (w.heap.size + 1 + 1 + 2) g n cap V els xs := ⟨by simpa using ho, by simpa using hr, hd, by rw [← List.length_map (f := Prod.fst), hm]; exact HN.out.symm⟩
  have hI := InvK.start (fun p => (-p.2, p.1)) hm
  have hS := hide (show MrS (fun p => (-p.2, p.1)) w n home bs g cap xs 0 0 ((V.setCell ⟨w.heap.size, 0, none⟩ (.slice (some ⟨g, 0, none⟩) n cap)).setCell ⟨w.heap.size, 1, none⟩ (.int .i64 home)) from
    ⟨(huV.setCell (by simp) _).setCell (by simp) _, (bx.set 0 (.slice (some ⟨g, 0, none⟩) n cap)).set 1 (.int .i64 home), (bz.other (by omega) _ _).other (by omega) _ _, els, (hO.other (by omega) _ _).other (by omega) _ _, hI⟩)
  have x0 := bx.cell 0 rfl
  have x1 := bx.cell 1 rfl
  have lx := bx.lt
  have fx0 := bx.frozen 0
  have fx1 := bx.frozen 1
  clear KO hV ho hr hm hd hW2 huV bx bz hO hI
  go_wp2_with fail
  go_loopw [3] (fun s3 wr => ∃ i : Nat, s3 = .int .i64 i ∧ i ≤ n ∧ Hid (MrS (fun p => (-p.2, p.1)) w n home bs g cap xs i 0 wr)) (fun s _ => n - (intOf s).toNat)
  case atStart => exact ⟨0, by go_num, by omega, hS⟩
  case round =>
    obtain ⟨i, rfl, hi, hM⟩ := hrel
    clear hS x0 x1 lx fx0 fx1
    obtain ⟨hu, bx, bz, els, hO, hI⟩ := hM.out
    have x0 := bx.cell 0 rfl
    have x1 := bx.cell 1 rfl
    have lx := bx.lt
    by_cases hlt : i < n
    · have hib : decide ((i : Int) < n) = true := by simp; omega
      have hin : decide (i < n) = true := by simp; omega
      obtain ⟨b, hbi⟩ : ∃ b, bs[i]? = some b := ⟨_, List.getElem?_eq_getElem (by rw [← HN.out]; exact hlt)⟩
      have hsb := HB.out b (List.mem_of_getElem? hbi)
      obtain ⟨L, hL⟩ : ∃ L, b.track.length = L := ⟨_, rfl⟩
      have hL4 := hsb.2.2.1
      rw [hL] at hL4
      have HL := hide (And.intro hbi (And.intro hsb hL))
      clear hu bx bz hO hI hbi hsb hL
      go_wp2_with fail
      go_loopw [4] (fun s4 wr => ∃ k : Nat, s4 = .int .i64 k ∧ k ≤ L ∧ Hid (MrS (fun p => (-p.2, p.1)) w n home bs g cap xs i k wr)) (fun s _ => L - (intOf s).toNat)
      case atStart => exact ⟨0, by go_num, by omega, hM⟩
      case round =>
        obtain ⟨k, rfl, hk, hJ⟩ := hrel
        clear hM x0 x1 lx
        obtain ⟨hu, bx, bz, els, hO, hI⟩ := hJ.out
        have x0 := bx.cell 0 rfl
        have x1 := bx.cell 1 rfl
        have lx := bx.lt
        obtain ⟨t, ht⟩ := hI.at HL.out.1
        obtain ⟨⟨ct, cg⟩, lg, hgb, htb, lt, ft, hcells⟩ := hO.at ht
        rw [mapK_len, HL.out.2.2] at cg
        by_cases hlk : k < L
        · have hkb : decide ((k : Int) < L) = true := by simp; omega
          have hkn : decide (k < L) = true := by simp; omega
          obtain ⟨⟨px, py⟩, hp⟩ : ∃ p, b.track[k]? = some p := ⟨_, List.getElem?_eq_getElem (by rw [HL.out.2.2]; exact hlk)⟩
          have hpm : (mapK (fun p => (-p.2, p.1)) k b.track)[k]? = some (px, py) := by rw [mapK_at, hp]; simp
          obtain ⟨c0, c1⟩ := hcells k _ hpm
          have hps := HL.out.2.1.2.2.2 _ (List.mem_of_getElem? hp)
          simp only at hps c0 c1
          have HK := hide (And.intro hu (And.intro bx (And.intro bz (And.intro hO (And.intro hI (And.intro ht (And.intro hp hpm)))))))
          clear hJ hu bx bz hO hI ht hp hpm hcells ft
          go_wp2_with fail
          refine forgetW (fun Z => Up wr Z ∧ Box Z wr.heap.size #[.int .i64 (px), .int .i64 (py)] 26) ⟨(by repeat (first | with_reducible exact Up.refl _ | with_reducible apply Up.plus | apply Up.ext | apply Up.alloc | apply Up.drew | (refine Up.setCell ?_ (by simp; try omega) _))), Box.mk rfl⟩ ?_
          rintro Z ⟨hZ, bp⟩
          have hZb := hZ.below.size
          have bxZ := HK.out.2.1.up hZ
          obtain ⟨⟨ct', cg'⟩, lg', _, _, lt0, _, _⟩ := (HK.out.2.2.2.1.up hZ).at HK.out.2.2.2.2.2.1
          rw [mapK_len, HL.out.2.2] at cg'
          have HZ := hide hZ
          clear hZ cg lg lt c0 c1 x0 x1 lx
          have x0 := bxZ.cell 0 rfl
          have x1 := bxZ.cell 1 rfl
          have lx := bxZ.lt
          have e0 := bp.cell 0 rfl
          have e1 := bp.cell 1 rfl
          have le := bp.lt
          clear bp bxZ
          refine wp_region_float (al := []) (mv := fun _ => false) [14] [0, 1, 2, 3, 4, 5, 6, 7, 8, 9, 10, 11, 12, 13] (by kernel_rfl) (by kernel_rfl) makes0 (cls_ext _) (by first | exact drew_in2 _ _ | exact drew_in _) (Nat.le_refl _) ?_
          simp only [withOps, List.filterMap_cons, List.filterMap_nil, List.getElem?_toArray, List.getElem?_cons_zero, List.getElem?_cons_succ, Option.map_some]
          (repeat (first | (apply walkF_pure (base := fun p : Ext => ext _ p) rfl rfl rfl (by kernel_rfl); · (intro px K hK; go_big_quiet_op; first | exact hK | (apply Exists.intro; refine ⟨fun _ => ?_, ?_⟩; (· (fail)); exact hK))) | (apply walkF_skip rfl; simp only [Act.put, List.setIfInBounds_toArray, List.set_cons_zero, List.set_cons_succ])))
          refine walkF_nil (end0 (fun U hU => ?_))
          (try simp only [List.filterMap_cons, List.filterMap_nil, List.getElem?_toArray, List.getElem?_cons_zero, List.getElem?_cons_succ])
          have hU1 : Up wr U := HZ.out.trans hU
          obtain ⟨_, _, _, _, lt', ft, hcells⟩ := (HK.out.2.2.2.1.up hU1).at HK.out.2.2.2.2.2.1
          obtain ⟨d0, d1⟩ := hcells k _ HK.out.2.2.2.2.2.2.2
          have f0 := ft (k * 2)
          have f1 := ft (k * 2 + 1)
          simp only at d0 d1
          have hN := hide (show MrS (fun p => (-p.2, p.1)) w n home bs g cap xs i (k + 1) ((U.setCell ⟨t, k * 2, none⟩ (.int .i64 (-py))).setCell ⟨t, k * 2 + 1, none⟩ (.int .i64 px)) from
            ⟨((HK.out.1.trans hU1).setCell (by simp; omega) _).setCell (by simp; omega) _, ((HK.out.2.1.up hU1).other (by omega) _ _).other (by omega) _ _, ((HK.out.2.2.1.up hU1).other (by omega) _ _).other (by omega) _ _, _,
              (HK.out.2.2.2.1.up hU1).alter2 HK.out.2.2.2.2.2.1 HK.out.2.2.2.2.2.2.2 (-py) px rfl, HK.out.2.2.2.2.1.step HL.out.1 HK.out.2.2.2.2.2.2.1⟩)
          clear hU hU1 hcells ft HK x0 x1 lx e0 e1 le cg'
          go_wp2_with fail
          go_roundw
          case rel => exact ⟨k + 1, by go_num, by omega, hN⟩
          case measure => simp [intOf]; omega
        · have hkb : decide ((k : Int) < L) = false := by simp; omega
          have hkn : decide (k < L) = false := by simp; omega
          have hkL : k = b.track.length := by rw [HL.out.2.2]; omega
          have hN := hide (show MrS (fun p => (-p.2, p.1)) w n home bs g cap xs (i + 1) 0 wr from ⟨hu, bx, bz, els, hO, InvK.next HL.out.1 (by rw [← hkL]; exact hI)⟩)
          clear hJ hu bx bz hO hI hcells ft ht hkL
          go_wp2_with fail
          go_roundw
          case rel => exact ⟨i + 1, by go_num, by omega, hN⟩
          case measure => simp [intOf]; omega
    · have hib : decide ((i : Int) < n) = false := by simp; omega
      have hin : i = n := by omega
      have z0 := bz.cell 0 rfl
      have z1 := bz.cell 1 rfl
      have lz := bz.lt
      have fz0 := bz.frozen 0
      have fz1 := bz.frozen 1
      rw [hin] at hI
      rw [HN.out] at hI
      have hE := hI.done
      have hBo := hO.bods (fun x hx => by
        have : x.1 ∈ bs.map turnB := by
          rw [show bs.map turnB = els.map Prod.fst from hE.symm]
          exact List.mem_map.2 ⟨x, hx, rfl⟩
        obtain ⟨c', hc', e⟩ := List.mem_map.1 this
        rw [← e]
        exact (HB.out c' hc').turn) hn1.2
      rw [show els.map Prod.fst = bs.map turnB from hE] at hBo
      have hK : Keeps (fun b => w.heap.size + 1 + 1 + 2 ≤ b) wr ((wr.setCell ⟨w.heap.size + 1, 0, none⟩ (.slice (some ⟨g, 0, none⟩) n cap)).setCell ⟨w.heap.size + 1, 1, none⟩ (.int .i64 home)) := ((Keeps.refl _ _).set (by omega) _ _).set (by omega) _ _
      have hF := hide (Bods.mono (K' := fun b => w.heap.size ≤ b) (hBo.keeps hK) fun b _ hb => by omega)
      have hUF := hide (show Up w ((wr.setCell ⟨w.heap.size + 1, 0, none⟩ (.slice (some ⟨g, 0, none⟩) n cap)).setCell ⟨w.heap.size + 1, 1, none⟩ (.int .i64 home)) from (hu.setCell (by simp) _).setCell (by simp) _)
      have hc0 := hide (((bz.set 0 (.slice (some ⟨g, 0, none⟩) n cap)).set 1 (.int .i64 home)).cell 0 rfl)
      have hc1 := hide (((bz.set 0 (.slice (some ⟨g, 0, none⟩) n cap)).set 1 (.int .i64 home)).cell 1 rfl)
      clear hM hu bx bz hO hI hE hBo hK
      go_wp2_with fail
      obtain ⟨p, hp⟩ := hUF.out
      exact bodyPost_ret (v := .agg #[.slice (some ⟨g, 0, none⟩) n cap, .int .i64 home]) (by simp [results, Try.results23, go_sem, hc0.out, hc1.out]) rfl ⟨g, cap, p, rfl, hp, hF.out⟩
end Go.Proofs.Ytbcgdhldkanecaa

