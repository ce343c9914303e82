/- Worlds that are mirrored and turned, in plain Lean: pulls, light, heat and sums are mirrored and turned with them. No program. -/
import Derived.Test.YtbcgdhldkanecaaSumF
namespace Go.Proofs.Ytbcgdhldkanecaa
open Go.RowKit

def turnA (a : Ar) : Ar := (-a.2.2.2, -a.2.2.1, a.1, a.2.1)
def mirA (a : Ar) : Ar := (-a.2.1, -a.1, a.2.2.1, a.2.2.2)
def turnB (b : Bod) : Bod := { b with track := b.track.map fun p => (-p.2, p.1) }
def mirB (b : Bod) : Bod := { b with track := b.track.map fun p => (-p.1, p.2) }

theorem getD_map {α β : Type} (f : α → β) (l : List α) (n : Nat) (d : α) (e : β) (h : f d = e) : (l.map f).getD n e = f (l.getD n d) := by
  subst h
  simp [List.getD_eq_getElem?_getD]
theorem placeV_turn (b : Bod) (t : Int) : placeV (turnB b) t = (-(placeV b t).2, (placeV b t).1) := by
  unfold placeV turnB
  simp only [List.length_map]
  exact getD_map (fun p : Int × Int => (-p.2, p.1)) _ _ _ _ rfl
theorem placeV_mir (b : Bod) (t : Int) : placeV (mirB b) t = (-(placeV b t).1, (placeV b t).2) := by
  unfold placeV mirB
  simp only [List.length_map]
  exact getD_map (fun p : Int × Int => (-p.1, p.2)) _ _ _ _ rfl
theorem minus_minus (x : Sp) : minusP (minusP x) = x := by unfold minusP; simp
theorem SmallB.turn {b : Bod} (h : SmallB b) : SmallB (turnB b) := by
  obtain ⟨h1, h2, h3, h4⟩ := h
  refine ⟨h1, h2, by simpa [turnB] using h3, fun p hp => ?_⟩
  obtain ⟨q, hq, rfl⟩ := List.mem_map.1 hp
  have := h4 q hq
  simp only
  omega
theorem SmallB.mir {b : Bod} (h : SmallB b) : SmallB (mirB b) := by
  obtain ⟨h1, h2, h3, h4⟩ := h
  refine ⟨h1, h2, by simpa [mirB] using h3, fun p hp => ?_⟩
  obtain ⟨q, hq, rfl⟩ := List.mem_map.1 hp
  have := h4 q hq
  simp only
  omega
theorem OrdA.turn {m : Int} {a : Ar} (h : OrdA m a) : OrdA m (turnA a) := by
  unfold OrdA Ord arX arY turnA at *
  simp only at *
  omega
theorem OrdA.mir {m : Int} {a : Ar} (h : OrdA m a) : OrdA m (mirA a) := by
  unfold OrdA Ord arX arY mirA at *
  simp only at *
  omega
theorem lsz_neg (x : Sp) : lsz (minusP x) = lsz x ∧ gsz (minusP x) = gsz x := by
  unfold lsz gsz minusP
  simp only
  omega
/-- a pull whose vector is turned, mirrored -/
theorem pull_turn {b : Bod} (h : SmallB b) {t : Int} {a : Ar} (ha : OrdA 33554432 a) : pullB t (turnA a) (turnB b) = turnA (pullB t a b) := by
  have h1 := h.mu0
  have h2 := h.2.1
  have hp := h.place t
  have ho := toP_val (p := placeV b t) (by omega) (by omega) ha
  have ht := toP_val (p := placeV (turnB b) t) (by rw [placeV_turn]; simp only; omega) (by rw [placeV_turn]; simp only; omega) ha.turn
  unfold pullB
  rw [pullP_val (show 0 ≤ (turnB b).mu from h1.1) h1.2 (show 0 ≤ (turnB b).radius by show 0 ≤ b.radius; omega) (show b.radius ≤ _ by omega) (by rw [placeV_turn]; simp only; omega) (by rw [placeV_turn]; simp only; omega) ha.turn,
    pullP_val h1.1 h1.2 (by omega) (by omega) (by omega) (by omega) ha]
  have hx : arX (toP (placeV (turnB b) t) (turnA a)) = minusP (arY (toP (placeV b t) a)) := by
    rw [ht, ho, placeV_turn]
    unfold arX arY minusP turnA
    apply Prod.ext <;> simp only <;> omega
  have hy : arY (toP (placeV (turnB b) t) (turnA a)) = arX (toP (placeV b t) a) := by
    rw [ht, ho, placeV_turn]
    rfl
  have hq1 : sqsL (turnB b).radius (toP (placeV (turnB b) t) (turnA a)) = sqsL b.radius (toP (placeV b t) a) := by
    unfold sqsL
    rw [hx, hy, (lsz_neg _).1, Int.add_comm]
    rfl
  have hq2 : sqsH (turnB b).radius (toP (placeV (turnB b) t) (turnA a)) = sqsH b.radius (toP (placeV b t) a) := by
    unfold sqsH
    rw [hx, hy, (lsz_neg _).2, Int.add_comm]
    rfl
  rw [hq1, hq2, hx, hy, minus_minus]
  unfold turnA
  rw [Int.neg_neg]
  rfl
theorem pull_mir {b : Bod} (h : SmallB b) {t : Int} {a : Ar} (ha : OrdA 33554432 a) : pullB t (mirA a) (mirB b) = mirA (pullB t a b) := by
  have h1 := h.mu0
  have h2 := h.2.1
  have hp := h.place t
  have ho := toP_val (p := placeV b t) (by omega) (by omega) ha
  have ht := toP_val (p := placeV (mirB b) t) (by rw [placeV_mir]; simp only; omega) (by rw [placeV_mir]; simp only; omega) ha.mir
  unfold pullB
  rw [pullP_val (show 0 ≤ (mirB b).mu from h1.1) h1.2 (show 0 ≤ (mirB b).radius by show 0 ≤ b.radius; omega) (show b.radius ≤ _ by omega) (by rw [placeV_mir]; simp only; omega) (by rw [placeV_mir]; simp only; omega) ha.mir,
    pullP_val h1.1 h1.2 (by omega) (by omega) (by omega) (by omega) ha]
  have hx : arX (toP (placeV (mirB b) t) (mirA a)) = minusP (arX (toP (placeV b t) a)) := by
    rw [ht, ho, placeV_mir]
    unfold arX minusP mirA
    apply Prod.ext <;> simp only <;> omega
  have hy : arY (toP (placeV (mirB b) t) (mirA a)) = arY (toP (placeV b t) a) := by
    rw [ht, ho, placeV_mir]
    rfl
  have hq1 : sqsL (mirB b).radius (toP (placeV (mirB b) t) (mirA a)) = sqsL b.radius (toP (placeV b t) a) := by
    unfold sqsL
    rw [hx, hy, (lsz_neg _).1]
    rfl
  have hq2 : sqsH (mirB b).radius (toP (placeV (mirB b) t) (mirA a)) = sqsH b.radius (toP (placeV b t) a) := by
    unfold sqsH
    rw [hx, hy, (lsz_neg _).2]
    rfl
  rw [hq1, hq2, hx, hy, minus_minus]
  unfold mirA
  rw [Int.neg_neg]
  rfl
theorem light_turn {l : Sp} {p : Ar} (hl : Ord 1000 l) (hp : OrdA 1048576 p) : lightP l (turnA p) = turnA (lightP l p) := by
  have e1 : arX (turnA p) = minusP (arY p) := rfl
  have e2 : arY (turnA p) = arX p := rfl
  unfold lightP
  rw [e1, e2, partP_neg hl hp.2, minus_minus]
  unfold turnA mkA minusP
  simp
theorem heat_turn {h : Sp} {p : Ar} (hl : Ord 1000 h) (hp : OrdA 1048576 p) : heatP h (turnA p) = turnA (heatP h p) := by
  have e1 : arX (turnA p) = minusP (arY p) := rfl
  have e2 : arY (turnA p) = arX p := rfl
  unfold heatP
  rw [e1, e2, partP_neg hl hp.2]
  unfold turnA mkA minusP
  simp
theorem light_mir {l : Sp} {p : Ar} (hl : Ord 1000 l) (hp : OrdA 1048576 p) : lightP l (mirA p) = mirA (lightP l p) := by
  have e1 : arX (mirA p) = minusP (arX p) := rfl
  have e2 : arY (mirA p) = arY p := rfl
  unfold lightP
  rw [e1, e2, partP_neg hl hp.1, minus_minus]
  unfold mirA mkA minusP
  simp
/-- nothing of heat -/
theorem heat_none {p : Ar} (hp : OrdA 1048576 p) : heatP (0, 0) p = (0, 0, 0, 0) := by
  have e : ∀ x : Sp, Ord 1048576 x → partP (0, 0) x = (0, 0) := fun x hx => by
    rw [partP_val ⟨by decide, by decide, by decide⟩ (hx.mono (by omega))]
    unfold mlo mhi
    simp
  unfold heatP
  rw [e _ hp.1, e _ hp.2]
  rfl
theorem plus_turn (a b : Ar) : plusA (turnA a) (turnA b) = turnA (plusA a b) := by
  obtain ⟨a1, a2, a3, a4⟩ := a
  obtain ⟨b1, b2, b3, b4⟩ := b
  unfold plusA turnA
  refine Prod.ext ?_ (Prod.ext ?_ (Prod.ext ?_ ?_)) <;> simp only <;> omega
theorem plus_mir (a b : Ar) : plusA (mirA a) (mirA b) = mirA (plusA a b) := by
  obtain ⟨a1, a2, a3, a4⟩ := a
  obtain ⟨b1, b2, b3, b4⟩ := b
  unfold plusA mirA
  refine Prod.ext ?_ (Prod.ext ?_ (Prod.ext ?_ ?_)) <;> simp only <;> omega
theorem fold_hom {f : Ar → Ar} (hf : ∀ a b, plusA (f a) (f b) = f (plusA a b)) : ∀ (ps : List Ar) (o : Ar), (ps.map f).foldl plusA (f o) = f (ps.foldl plusA o)
  | [], _ => rfl
  | p :: ps, o => by
    rw [List.map_cons, List.foldl_cons, List.foldl_cons, hf]
    exact fold_hom hf ps _
theorem gas_turn (g : Int) : turnA (gasP g) = gasP g := by unfold turnA gasP; simp
theorem gas_mir (g : Int) : mirA (gasP g) = gasP g := by unfold mirA gasP; simp
theorem pulls_turn {bs : List Bod} (hb : ∀ b ∈ bs, SmallB b) {t : Int} {a : Ar} (ha : OrdA 33554432 a) : (bs.map turnB).map (pullB t (turnA a)) = (bs.map (pullB t a)).map turnA := by
  rw [List.map_map, List.map_map]
  exact List.map_congr_left fun b h => pull_turn (hb b h) ha
theorem pulls_mir {bs : List Bod} (hb : ∀ b ∈ bs, SmallB b) {t : Int} {a : Ar} (ha : OrdA 33554432 a) : (bs.map mirB).map (pullB t (mirA a)) = (bs.map (pullB t a)).map mirA := by
  rw [List.map_map, List.map_map]
  exact List.map_congr_left fun b h => pull_mir (hb b h) ha
theorem head_map {f : Ar → Ar} (hf : f (0, 0, 0, 0) = (0, 0, 0, 0)) (ps : List Ar) : (ps.map f).headD (0, 0, 0, 0) = f (ps.headD (0, 0, 0, 0)) := by
  cases ps with
  | nil => exact hf.symm
  | cons p ps => rfl
def turnSky (s : SkyD) : SkyD := { s with bodies := s.bodies.map turnB }
def mirSky (s : SkyD) : SkyD := { s with bodies := s.bodies.map mirB }
theorem SmallSky.turn {s : SkyD} (h : SmallSky s) : SmallSky (turnSky s) :=
  ⟨by simpa [turnSky] using h.num, fun b hb => by obtain ⟨c, hc, rfl⟩ := List.mem_map.1 hb; exact (h.bods c hc).turn, by simpa [turnSky] using h.home, h.stn, h.sts, h.can, h.cas⟩
theorem SmallSky.mir {s : SkyD} (h : SmallSky s) : SmallSky (mirSky s) :=
  ⟨by simpa [mirSky] using h.num, fun b hb => by obtain ⟨c, hc, rfl⟩ := List.mem_map.1 hb; exact (h.bods c hc).mir, by simpa [mirSky] using h.home, h.stn, h.sts, h.can, h.cas⟩
theorem allS_turn {l h : Sp} {g : Int} (hl : Ord 1000 l) (hh : Ord 1000 h) (ps : List Ar) (hp : OrdA 1048576 (ps.headD (0, 0, 0, 0))) : allS l h g (ps.map turnA) = turnA (allS l h g ps) := by
  unfold allS
  rw [head_map rfl, ← fold_hom plus_turn]
  unfold baseS
  rw [light_turn hl hp, heat_turn hh hp, ← gas_turn, plus_turn, plus_turn, gas_turn]
theorem allS_mir {l : Sp} {g : Int} (hl : Ord 1000 l) (ps : List Ar) (hp : OrdA 1048576 (ps.headD (0, 0, 0, 0))) : allS l (0, 0) g (ps.map mirA) = mirA (allS l (0, 0) g ps) := by
  unfold allS
  rw [head_map rfl, ← fold_hom plus_mir]
  unfold baseS
  rw [light_mir hl hp, heat_none hp, heat_none hp.mir, ← gas_mir, plus_mir, show ((0, 0, 0, 0) : Ar) = mirA (0, 0, 0, 0) from rfl, plus_mir, gas_mir]
  rfl
/-- what the law asks, with letters for the values -/
theorem mirror_facts {s : SkyD} (hs : SmallSky s) {l h : Sp} {g t : Int} {a : Ar} (hl : 0 ≤ l.1 ∧ l.1 ≤ l.2 ∧ l.2 ≤ 1000) (hh : -1000 ≤ h.1 ∧ h.1 ≤ h.2 ∧ h.2 ≤ 1000) (hg : 0 ≤ g ∧ g ≤ 1000) (ht : 0 ≤ t ∧ t ≤ 1000000) (ha : OrdA 33554432 a) :
    ∃ p q : Ar, OrdA 1000000000 p ∧ OrdA 1000000000 q ∧ overV s.bodies s.home l h g t a = (p, 0) ∧ overV (s.bodies.map turnB) s.home l h g t (turnA a) = (turnA p, 0) ∧
      overV s.bodies s.home l (0, 0) g t a = (q, 0) ∧ overV (s.bodies.map mirB) s.home l (0, 0) g t (mirA a) = (mirA q, 0) := by
  have hl' : Ord 1000 l := ⟨by omega, hl.2.1, hl.2.2⟩
  have hz : (-1000 : Int) ≤ ((0, 0) : Sp).1 ∧ ((0, 0) : Sp).1 ≤ ((0, 0) : Sp).2 ∧ ((0, 0) : Sp).2 ≤ 1000 := by decide
  have e1 := over_small hs hl hh hg ht ha
  have e2 := over_small hs hl hz hg ht ha
  have e3 := over_small hs.turn hl hh hg ht ha.turn
  have e4 := over_small hs.mir hl hz hg ht ha.mir
  have hd := head_ord hs t ha
  have hpo := pulls_ord hs t ha
  have hn := hs.num
  have hb : ∀ h' : Sp, Ord 1000 h' → OrdA 1000000000 (allS l h' g (s.bodies.map (pullB t a))) := fun h' ho => by
    have h1 := plus_ord (plus_ord (gas_ord hg.1 hg.2) (light_ord hl' hd)) (heat_ord ho hd)
    have h2 := partS_ord h1 hpo (s.bodies.map (pullB t a)).length (Nat.le_refl _)
    rw [partS_all] at h2
    exact h2.mono (by simp only [List.length_map]; omega)
  refine ⟨_, _, hb h hh, hb (0, 0) hz, e1, ?_, e2, ?_⟩
  · rw [show overV (s.bodies.map turnB) s.home l h g t (turnA a) = _ from e3]
    rw [show (turnSky s).bodies = s.bodies.map turnB from rfl, pulls_turn hs.bods ha, allS_turn hl' hh _ hd]
  · rw [show overV (s.bodies.map mirB) s.home l (0, 0) g t (mirA a) = _ from e4]
    rw [show (mirSky s).bodies = s.bodies.map mirB from rfl, pulls_mir hs.bods ha, allS_mir hl' _ hd]
end Go.Proofs.Ytbcgdhldkanecaa
