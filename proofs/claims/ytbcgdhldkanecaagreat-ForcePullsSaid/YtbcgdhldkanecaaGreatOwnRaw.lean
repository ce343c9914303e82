/- A copy of any world whose bodies and tracks are no more than the statements cover: the same bodies, in new blocks. Conditions: sizes; what lies in memory. -/
import Derived.Test.YtbcgdhldkanecaaGreatRaw
import Derived.Deep.Upon
namespace Go.Proofs.YtbcgdhldkanecaaGreat
set_option linter.unusedVariables false
set_option linter.unusedSimpArgs false
open Go.RowKit Go.Shelf

theorem rowTwo {W : World} {tr : List (Int × Int)} (h : ∀ (i : Nat) (p : Int × Int), tr[i]? = some p → I64 p.1 ∧ I64 p.2) : RowOf 2 (RTwo W) tr (flatV tr) :=
  ⟨tr.map fun p => [Value.int .i64 p.1, Value.int .i64 p.2], rfl, by simp, fun i x hx => ⟨[.int .i64 x.1, .int .i64 x.2], by simp [hx], ⟨rfl, (h i x hx).1, (h i x hx).2⟩, rfl⟩⟩
/-- a track copied behind an empty list -/
theorem wpList_append_vecs {ops : Array Oper} {rest : List Oper} {o : Oper} {a : Act} {w : World} {Q : Exit → Act → World → Prop} {K : Nat → Prop} {base Z tn tc : Nat} {ta : Option Addr} {tr : List (Int × Int)} (hgd : o.guard = none) (s x : Operand)
    (ho : o.op = .call { callee := .builtin .append, args := #[s, x], argTypes := #[59, 59] }) {iv : TypeInfo} (hvi : Tryz.prog.info? 55 = some iv) (hv0 : iv.zero = some (.agg #[.int .i64 0, .int .i64 0])) (hv1 : iv.size = 2) (hv2 : iv.bytes = 16)
    (hs : a.eval s = .slice (some ⟨Z, 0, none⟩) 0 0) (hx : a.eval x = .slice ta tn tc) (hrow : w.ownsRow base 55 2 (.slice (some ⟨Z, 0, none⟩) 0 0) 0 []) (hT : Vecs K w (.slice ta tn tc) tr) (htn : tn ≤ 4097) (hbase : base ≤ w.heap.size) (hZ : Z < w.heap.size)
    (h : ∀ g cap w', Vecs (fun b => b = g) w' (.slice (some ⟨g, 0, none⟩) tn cap) tr → w.grownBy w' (some Z) → (g = Z ∨ g = w.heap.size) → g < w'.heap.size → wpList Tryz.prog ops Q rest (a.put o.dst (.slice (some ⟨g, 0, none⟩) tn cap)) w') : wpList Tryz.prog ops Q (o :: rest) a w := by
  have hl := (Vecs.at hT).1
  by_cases h0 : tn = 0
  · subst h0
    obtain rfl : tr = [] := List.length_eq_zero_iff.1 hl.symm
    have hsrc : Src Tryz.prog iv.size 59 (.slice ta 0 tc) 0 [] w := by
      cases ta with
      | none => exact Src.ofNil w Tryz.underlying59 tc
      | some ad => exact Src.ofSlice w Tryz.underlying59 ad 0 tc [] (by simp) (fun j u hj => by simp at hj) (fun _ h => by cases h)
    have hr := run_append_nothing (P := Tryz.prog) w 59 59 o.type 55 iv Tryz.underlying59 hvi (some ⟨Z, 0, none⟩) 0 0 (Nat.le_refl _) (.slice ta 0 tc) hsrc
    refine wpList_plain hgd fun K' hK => ?_
    unfold Oper.wp execOp
    simp only [ho, resolve, invoke, builtin, Sem.run_bind, Sem.run_pure, Result.andThen_ok, List.map_toArray, List.map_cons, List.map_nil, hs, hx, hr]
    exact hK _ _ (h Z 0 w (Lies.nil _ _ _ _ _ _) (grown_refl _ _) (.inl rfl) hZ)
  · obtain ⟨bt, ot, _, rfl, _⟩ := (Vecs.at hT).2.2 0 (by omega)
    refine wpList_append_lies _ hgd s x 59 ho base 55 iv _ 2 16 Tryz.underlying59 hvi hv0 hv1 hv2 rfl (by decide) (.slice (some ⟨Z, 0, none⟩) 0 0) 0 [] hs hrow ⟨bt, ot, none⟩ tn tc (flatV tr) hx (by rw [flatV_len, hl]) (vec_news hT) (flatV_one _) (by omega) (by unfold maxLen; omega) (by omega) hbase _ rfl ?_
    intro g cap w' hown hgrow hat hlt
    rw [List.nil_append, Nat.zero_add] at hown
    rw [Nat.zero_add]
    rw [hl] at hown
    have hV : Vecs (fun b => b = g) w' (.slice (some ⟨g, 0, none⟩) tr.length cap) tr := Lies.ofRow hown (rowTwo fun i p hp => by
      obtain ⟨_, _, q, _, _, _, hq, hI, _⟩ := (Vecs.at hT).2.2 i (by rw [hl]; exact (List.getElem?_eq_some_iff.1 hp).1)
      rw [hp] at hq
      cases hq
      exact hI) (fun g' e => by simpa [Value.ownBlock] using e.symm) (by omega)
    rw [← hl] at hV
    exact h g cap w' hV hgrow (hat.imp (fun e => by simpa [Value.ownBlock] using e.symm) id) hlt
/-- the copy, with k bodies done -/
def OwR (w : World) (a : Option Addr) (n c : Nat) (home : Int) (bs : List Bod) (k : Nat) (sv : Value) (wr : World) : Prop :=
  Up w wr ∧ Box wr w.heap.size #[.slice a n c, .int .i64 home] 24 ∧ Box wr (w.heap.size + 1) #[.slice none 0 0, .int .i64 0] 24 ∧
    ∃ (xs : List Value), wr.ownsRow (w.heap.size + 2) 73 3 sv k xs ∧ RowOf 3 (RBod (fun b => (w.heap.size + 2 ≤ b ∧ b < wr.heap.size) ∧ sv.ownBlock ≠ some b) wr) (bs.take k) xs

set_option maxRecDepth 100000 in
set_option maxHeartbeats 8000000 in
theorem ownworld_raw {K : Nat → Prop} {w : World} {a : Option Addr} {n c : Nat} {bs : List Bod} {home : Int} (hl : Bods K w (.slice a n c) bs) (hn1 : bs.length ≤ 10) (hb : ∀ b ∈ bs, b.track.length ≤ 4097) :
    Calls Tryz.prog 14 #[.agg #[.slice a n c, .int .i64 home]] w fun e W' => ∃ (a' : Option Addr) (c' : Nat), e = .returned (.agg #[.slice a' n c', .int .i64 home]) ∧ Up w W' ∧ Bods (fun _ => True) W' (.slice a' n c') bs := by
  obtain ⟨iv, hvi, hv0, hv1, hv2⟩ := info_parts Tryz.infovec
  obtain ⟨ib, hbi, hb0, hb1, hb2⟩ := info_parts Tryz.infobody
  have HI := hide (And.intro (And.intro hvi (And.intro hv0 (And.intro hv1 hv2))) (And.intro hbi (And.intro hb0 (And.intro hb1 hb2))))
  clear hvi hv0 hv1 hv2 hbi hb0 hb1 hb2
  have hn := (Bods.at hl).1
  have HN := hide hn
  rw [← hn] at hn1
  have HL := hide (And.intro hl hb)
  clear hl hb hn
  go_enter Tryz.func14, Tryz.ntmps14
  go_wp2
  go_loopw [3, 4] (fun s3 s4 wr => ∃ k : Nat, s4 = .int .i64 k ∧ k ≤ n ∧ Hid (OwR w a n c home bs k s3 wr)) (fun _ s _ => n - (intOf s).toNat)
  case atStart => exact ⟨0, by go_num, by omega, hide ⟨(by repeat (first | with_reducible exact Up.refl _ | with_reducible apply Up.plus | apply Up.ext | apply Up.alloc | apply Up.drew | (refine Up.setCell ?_ (by simp; try omega) _))), (Box.mk rfl).alloc _, Box.mk (by simp), [], World.ownsRow_nil _ _ _ _, RowOf.nil _ _⟩⟩
  case round =>
    obtain ⟨k, rfl, hk, hJ⟩ := hrel
    obtain ⟨hu, bx0, bx1, xs, ho, hr⟩ := hJ.out
    have x0 := bx0.cell 0 rfl
    have lx0 := bx0.lt
    by_cases hlt : k < n
    · have hkb : decide ((k : Int) < n) = true := by simp; omega
      have hkn : decide (k < n) = true := by simp; omega
      obtain ⟨b0, o0, b, ta, tn, tc, ea, _, hb0r, hbk, hIb, d0, d1, d2, hT⟩ := (Bods.at (HL.out.1.keeps (hu.keeps K))).2.2 k hlt
      have htb := HL.out.2 b (List.mem_of_getElem? hbk)
      have htn := (Vecs.at hT).1
      subst ea
      obtain ⟨Z, hZ⟩ : ∃ Z, wr.heap.size = Z := ⟨_, rfl⟩
      have HX := hide (And.intro hu (And.intro bx0 (And.intro bx1 (And.intro ho (And.intro hr (And.intro hbk (And.intro hIb (And.intro hT (And.intro htn htb)))))))))
      clear hJ hu bx0 bx1 ho hr hbk hIb hT htn htb
      go_wp2_with (at_builtin; with_reducible refine stopA rfl ?_)
      refine hide ?_
      try rw [hZ]
      have hsz := HX.out.1.below.size
      have hu0 : Up wr ((wr.alloc (.cells #[.int .i64 b.mu, .int .i64 b.radius, .slice ta tn tc] 73)).alloc (.cells #[] 55)) := ((Up.refl wr).alloc _).alloc _
      have lx1 := HX.out.2.2.1.lt
      refine wpList_append_vecs rfl (.tmp 18) (.tmp 20) rfl HI.out.1.1 HI.out.1.2.1 HI.out.1.2.2.1 HI.out.1.2.2.2 (Z := Z + 1) (base := w.heap.size + 2) rfl rfl (by rw [← hZ]; exact emptyRow (by simp) (by omega)) (HX.out.2.2.2.2.2.2.2.1.keeps (hu0.keeps _)) (by have := HX.out.2.2.2.2.2.2.2.2.1; have := HX.out.2.2.2.2.2.2.2.2.2; omega) (by simp; omega) (by simp; omega) ?_
      intro g1 cap1 w1 hV1 hgrow1 hat1 hlt1
      have hg1 : Z + 1 ≤ g1 := by
        rcases hat1 with h | h
        · omega
        · simp at h; omega
      have hs1 := hgrow1.size
      rw [World.size_alloc, World.size_alloc, hZ] at hs1
      have hol : ∀ q, u3.ownBlock = some q → w.heap.size + 2 ≤ q ∧ q < wr.heap.size := fun q e => HX.out.2.2.2.1.lt q e
      have hu1 : Up wr w1 := .of_below (hu0.below.grown hgrow1 hu0.below.size (fun q e => by have := Option.some.inj e; omega))
      have bz1 : Box w1 Z #[.int .i64 b.mu, .int .i64 b.radius, .slice ta tn tc] 73 := ((Box.mk hZ).alloc _).grown hgrow1 (fun e => by have := Option.some.inj e; omega)
      have z0 := bz1.cell 0 rfl
      have z1 := bz1.cell 1 rfl
      have z2 := bz1.cell 2 rfl
      have fz2 := bz1.frozen 2
      have lz := bz1.lt
      have HY := hide (And.intro hu1 (And.intro bz1 (And.intro hV1 hol)))
      clear hu0 hgrow1 hat1 bz1 hu1 hV1 hol
      go_wp2_with (at_builtin; with_reducible refine stopA rfl ?_)
      refine hide ?_
      obtain ⟨hu1, bz1, hV1, hol⟩ := HY.out
      obtain ⟨W2, hW2⟩ : ∃ W2, w1.setCell ⟨Z, 2, none⟩ (.slice (some ⟨g1, 0, none⟩) tn cap1) = W2 := ⟨_, rfl⟩
      try rw [hZ]
      rw [hW2]
      have hu2 : Up wr W2 := by rw [← hW2]; exact hu1.setCell (by simp; omega) _
      have hW2s : W2.heap.size = w1.heap.size := by rw [← hW2, set_size]
      have hV2 : Vecs (fun b => b = g1) W2 (.slice (some ⟨g1, 0, none⟩) tn cap1) b.track := by
        rw [← hW2]
        exact hV1.keeps (Keeps.grown (grown_set (grown_refl _ (some Z)) 2 _) (fun q e h => by omega))
      have hor : W2.ownsRow (w.heap.size + 2) 73 3 u3 k xs := ownsRow_keeps HX.out.2.2.2.1 (hu2.keeps (fun _ => True)) (fun _ _ => trivial)
      have ho2 := hor.alloc (.cells #[.int .i64 b.mu, .int .i64 b.radius, .slice (some ⟨g1, 0, none⟩) tn cap1] 73)
      refine wpList_append_lies _ rfl (.tmp 23) (.tmp 25) 22 rfl (w.heap.size + 2) 73 ib _ 3 40 Tryz.underlying22 HI.out.2.1 HI.out.2.2.1 HI.out.2.2.2.1 HI.out.2.2.2.2 rfl (by decide) u3 k xs rfl ho2 ⟨W2.heap.size, 0, none⟩ 1 1 [.int .i64 b.mu, .int .i64 b.radius, .slice (some ⟨g1, 0, none⟩) tn cap1] (by rw [hW2s]; rfl) rfl
        (World.news_of_block (Box.mk rfl)) (fun u hu => by simp only [List.mem_cons, List.not_mem_nil, or_false] at hu; rcases hu with rfl | rfl | rfl <;> rfl) (by decide) (by unfold maxLen; omega) (by omega) (by simp; omega) _ rfl ?_
      intro g cap w2 hown2 hgrow2 hat2 hlt2
      have hs2 := hgrow2.size
      rw [World.size_alloc] at hs2
      have hu3 : Up wr (W2.alloc (.cells #[.int .i64 b.mu, .int .i64 b.radius, .slice (some ⟨g1, 0, none⟩) tn cap1] 73)) := hu2.alloc _
      have hgM : u3.ownBlock = some g ∨ wr.heap.size ≤ g := by
        rcases hat2 with h | h
        · exact .inl h
        · right; simp at h; omega
      have hgg : g ≠ g1 := fun e => by
        subst e
        rcases hat2 with h | h
        · have := hol _ h; omega
        · simp at h; omega
      have hNew := hide (show OwR w (some ⟨b0, o0, none⟩) n c home bs (k + 1) (.slice (some ⟨g, 0, none⟩) (k + 1) cap) w2 from by
        have hua : Up w (W2.alloc (.cells #[.int .i64 b.mu, .int .i64 b.radius, .slice (some ⟨g1, 0, none⟩) tn cap1] 73)) := HX.out.1.trans hu3
        have hrow : ∀ q, u3.ownBlock = some q → w.heap.size + 2 ≤ q := fun q e => (hol q e).1
        refine ⟨.of_below (hua.below.grown hgrow2 hua.below.size (fun q e => by have := hol q e; omega)), (HX.out.2.1.up hu3).grown hgrow2 (fun e => by have := hol _ e; omega), (HX.out.2.2.1.up hu3).grown hgrow2 (fun e => by have := hol _ e; omega), _, hown2, ?_⟩
        rw [List.take_add_one, HX.out.2.2.2.2.2.1]
        refine RowOf.snoc (x := b) (HX.out.2.2.2.2.1.mono fun x vs hx => ?_) ⟨.slice (some ⟨g1, 0, none⟩) tn cap1, rfl, HX.out.2.2.2.2.2.2.1.1, HX.out.2.2.2.2.2.2.1.2, ?_⟩ rfl
        · refine ((hx.keeps (hu3.keeps _)).keeps (w' := w2) ⟨hgrow2.size, fun q hq hl => hgrow2.block q hl (fun e => hq.2 e.symm)⟩).mono fun q _ hq => ⟨⟨hq.1.1, by have := hq.1.2; have := hu3.below.size; simp only [World.size_alloc] at this; omega⟩, fun e => ?_⟩
          have e' : g = q := by simpa [Value.ownBlock] using e
          subst e'
          rcases hgM with h | h
          · exact hq.2 h
          · have := hq.1.2; omega
        · refine ((hV2.keeps (((Up.refl W2).alloc _).keeps _)).keeps (w' := w2) ⟨hgrow2.size, fun q hq hl => hgrow2.block q hl (fun e => by subst hq; have := hol _ e.symm; omega)⟩).mono (fun q _ hq => ?_) fun _ _ h => h
          subst hq
          exact ⟨⟨by omega, by omega⟩, fun e => hgg (by simpa [Value.ownBlock] using e)⟩)
      clear hown2 hgrow2 hat2 hlt2 hu1 bz1 hV1 hol hu2 hV2 hor ho2 hu3 hgM hgg z0 z1 z2 fz2 lz d0 d1 d2 HY x0 lx0 hs1 hs2 lx1 hb0r HX hW2 hW2s
      go_wp2
      go_roundw
      case rel => exact ⟨k + 1, by go_num, by omega, hNew⟩
      case measure => simp [intOf]; omega
    · have hkb : decide ((k : Int) < n) = false := by simp; omega
      have hkn2 : decide (k < n) = false := by simp; omega
      obtain rfl : k = n := by omega
      have hform : ∃ (a' : Option Addr) (c' : Nat), u3 = .slice a' k c' := by
        rcases ho.2 with ⟨h1, h2⟩ | ⟨g, cap, cur, h1, _⟩
        · exact ⟨none, 0, by rw [h1, h2]⟩
        · exact ⟨_, _, h1⟩
      obtain ⟨a', c', rfl⟩ := hform
      have f0 := bx0.frozen 0
      have x1 := bx0.cell 1 rfl
      have y0 := bx1.cell 0 rfl
      have y1 := bx1.cell 1 rfl
      have fy0 := bx1.frozen 0
      have fy1 := bx1.frozen 1
      have ly := bx1.lt
      have HX := hide (And.intro hu (And.intro bx0 (And.intro bx1 (And.intro ho hr))))
      clear hJ hu bx0 bx1 ho hr
      go_wp2_with fail
      obtain ⟨hu, bx0, bx1, ho, hr⟩ := HX.out
      have bF := ((bx1.other (b' := w.heap.size) (by omega) 0 (.slice a' k c')).set 0 (.slice a' k c')).set 1 (.int .i64 home)
      have hc0 := bF.cell 0 rfl
      have hc1 := bF.cell 1 rfl
      have huF : Up w (((wr.setCell ⟨w.heap.size, 0, none⟩ (.slice a' k c')).setCell ⟨w.heap.size + 1, 0, none⟩ (.slice a' k c')).setCell ⟨w.heap.size + 1, 1, none⟩ (.int .i64 home)) :=
        ((hu.setCell (by simp) _).setCell (by simp) _).setCell (by simp) _
      refine bodyPost_ret (v := .agg #[.slice a' k c', .int .i64 home]) (by simp [results, Tryz.results14, go_sem, hc0, hc1]) rfl ⟨a', c', rfl, huF, ?_⟩
      rw [List.take_of_length_le (by rw [← HN.out]; exact Nat.le_refl _)] at hr
      have hB : Bods (fun b => w.heap.size + 2 ≤ b) wr (.slice a' k c') bs := by
        have ho' := ho
        rw [HN.out] at ho'
        have := Lies.ofRow (K := fun b => w.heap.size + 2 ≤ b) (R := fun W b vs => RBod (fun b => w.heap.size + 2 ≤ b) W b vs) ho' (hr.mono fun x vs hx => hx.mono fun _ _ h => h.1.1) (fun g e => (ho'.lt g e).1) (by have := HN.out; omega)
        rw [← HN.out] at this
        exact this
      have ks : ∀ {V : World} (q j : Nat) (v : Value), q < w.heap.size + 2 → Keeps (fun b => w.heap.size + 2 ≤ b) V (V.setCell ⟨q, j, none⟩ v) := fun {V} q j v hq => Keeps.grown (grown_set (grown_refl _ (some q)) j v) (fun b h => by omega)
      exact Bods.mono (((hB.keeps (ks _ _ _ (by omega))).keeps (ks _ _ _ (by omega))).keeps (ks _ _ _ (by omega))) fun _ _ _ => trivial
end Go.Proofs.YtbcgdhldkanecaaGreat
