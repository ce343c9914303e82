/- A region that draws its order and builds slices of values that come up in it: the new blocks may come at any time behind what they look at, and the variables they are assigned to as well. One walk serves every order. No conditions but those typed. -/
import Derived.Test.YtbcgdhldkanecaaGreatFloat
import Derived.Great.BuildSlice
namespace Go.Proofs.YtbcgdhldkanecaaGreat
set_option linter.unusedVariables false
set_option linter.unusedSimpArgs false
open Go.RowKit

/-- an operation that makes a block (src none: n cells of type T; n = 0: a pointer) or copies what another of them has made -/
structure Mk where
  i : Nat
  d : Nat
  n : Nat
  T : TypeId
  src : Option Nat

section
variable {P : Program} {ops : Array Oper} {md : Region.Mode} {U : World → Prop} {B0 : Nat} {M : Array Bool} {al : List Mk}

def valV (n g : Nat) : Value := match n with
  | 0 => .pointer (some ⟨g, 0, none⟩)
  | k + 1 => .slice (some ⟨g, 0, none⟩) (k + 1) (k + 1)
def putOneV (σ : Put) (a : Act) (x : Mk) : Act := match σ x.i with
  | none => a
  | some g => a.put (some x.d) (valV x.n g)
def appV (al : List Mk) (σ : Put) (a : Act) : Act := al.foldl (putOneV σ) a

theorem appV_put (σ : Put) : ∀ (al : List Mk) (a : Act) (d : Option Tmp) (v : Value), (∀ x ∈ al, d ≠ some x.d) → appV al σ (a.put d v) = (appV al σ a).put d v
  | [], _, _, _, _ => rfl
  | x :: al, a, d, v, h => by
    unfold appV
    simp only [List.foldl_cons]
    have e : putOneV σ (a.put d v) x = (putOneV σ a x).put d v := by
      unfold putOneV
      split
      · rfl
      · exact Act.put_comm a _ _ fun t ht => by subst ht; intro h2; exact h x (by simp) (by simpa using h2.symm)
    rw [e]
    exact appV_put σ al _ d v fun y hy => h y (by simp [hy])
theorem appV_rest (σ : Put) (i g : Nat) : ∀ (l : List Mk) (b : Act), (∀ z ∈ l, z.i ≠ i) → appV l (upd σ i g) b = appV l σ b
  | [], _, _ => rfl
  | z :: l, b, hz => by
    unfold appV
    simp only [List.foldl_cons]
    have e : putOneV (upd σ i g) b z = putOneV σ b z := by unfold putOneV upd; rw [if_neg (hz z (by simp))]
    rw [e]
    exact appV_rest σ i g l _ fun u hu => hz u (by simp [hu])
theorem appV_upd (σ : Put) (i g : Nat) : ∀ (al : List Mk) (a : Act) (x : Mk), x ∈ al → x.i = i → (al.map (·.i)).Nodup → (al.map (·.d)).Nodup → σ i = none →
    appV al (upd σ i g) a = (appV al σ a).put (some x.d) (valV x.n g)
  | y :: al, a, x, hx, hi, h1, h2, hn => by
    simp only [List.map_cons, List.nodup_cons, List.mem_map, not_exists, not_and] at h1 h2
    rcases List.mem_cons.1 hx with rfl | hx'
    · have e1 : putOneV (upd σ i g) a x = a.put (some x.d) (valV x.n g) := by unfold putOneV upd; rw [if_pos hi]
      have e2 : putOneV σ a x = a := by unfold putOneV; rw [hi, hn]
      unfold appV
      simp only [List.foldl_cons]
      rw [e1, e2]
      show appV al (upd σ i g) _ = (appV al σ a).put _ _
      rw [appV_rest σ i g al _ fun z hz hzi => h1.1 z hz (hzi.trans hi.symm), appV_put σ al a _ _ fun z hz he => h2.1 z hz (Option.some.inj he).symm]
    · have hne : y.i ≠ i := fun e => h1.1 x hx' (hi.trans e.symm)
      have e1 : putOneV (upd σ i g) a y = putOneV σ a y := by unfold putOneV upd; rw [if_neg hne]
      unfold appV
      simp only [List.foldl_cons]
      rw [e1]
      exact appV_upd σ i g al _ x hx' hi h1.2 h2.2 hn
theorem appV_size (σ : Put) : ∀ (al : List Mk) (a : Act), (appV al σ a).tmps.size = a.tmps.size
  | [], _ => rfl
  | x :: al, a => by
    unfold appV
    simp only [List.foldl_cons]
    have e : (putOneV σ a x).tmps.size = a.tmps.size := by unfold putOneV; split <;> simp [Act.put]
    exact (appV_size σ al _).trans e
theorem appV_get (σ : Put) : ∀ (al : List Mk) (a : Act) (x : Mk), x ∈ al → (al.map (·.d)).Nodup → ∀ g, σ x.i = some g → x.d < a.tmps.size → (appV al σ a).tmps.getD x.d undef = valV x.n g
  | y :: al, a, x, hx, h2, g, hg, hd => by
    simp only [List.map_cons, List.nodup_cons, List.mem_map, not_exists, not_and] at h2
    have hs : (putOneV σ a y).tmps.size = a.tmps.size := by unfold putOneV; split <;> simp [Act.put]
    rcases List.mem_cons.1 hx with rfl | hx'
    · have e : putOneV σ a x = a.put (some x.d) (valV x.n g) := by unfold putOneV; rw [hg]
      unfold appV
      simp only [List.foldl_cons]
      show (appV al σ (putOneV σ a x)).tmps.getD x.d undef = _
      rw [e, appV_put σ al a _ _ fun z hz he => h2.1 z hz (Option.some.inj he).symm]
      have : x.d < (appV al σ a).tmps.size := by rw [appV_size]; exact hd
      simp [Act.put, this]
    · unfold appV
      simp only [List.foldl_cons]
      exact appV_get σ al _ x hx' h2.2 g hg (by rw [hs]; exact hd)

/-- what operation x makes of the frame a -/
def RunsTo (P : Program) (ops : Array Oper) (x : Mk) (a : Act) (c : Array Value) : Prop :=
  ∃ o, ops[x.i]? = some o ∧ o.dst = some x.d ∧ (∀ y, Region.wanted o y = true) ∧ ∀ w, (execOp a.eval o).run P w = .ok (.value (valV x.n w.heap.size)) (w.alloc (.cells c x.T (0, 0)))
theorem RunsTo.of_same {x : Mk} {a a' : Act} {c : Array Value} {o : Oper} (ho : ops[x.i]? = some o) (h : RunsTo P ops x a c) (he : execOp a'.eval o = execOp a.eval o) : RunsTo P ops x a' c := by
  obtain ⟨o', ho', h1, h2, h3⟩ := h
  obtain rfl : o = o' := Option.some.inj (ho.symm.trans ho')
  exact ⟨o, ho', h1, h2, fun w => by rw [he]; exact h3 w⟩
theorem RunsTo.put {x : Mk} {a : Act} {c : Array Value} (hsel : ∀ (j : Nat) (o : Oper) cs b, ops[j]? = some o → o.op ≠ .select cs b) (h : RunsTo P ops x a c) (d : Option Tmp) (v : Value) (hd : ∀ o, ops[x.i]? = some o → ∀ t, d = some t → t ∉ o.looksAt ops) : RunsTo P ops x (a.put d v) c := by
  obtain ⟨o, ho, _⟩ := id h
  exact h.of_same ho (execOp_put o (fun cs b => hsel _ o cs b ho) a d v (hd o ho))
theorem RunsTo.det {x : Mk} {a : Act} {c c' : Array Value} (W : World) (h : RunsTo P ops x a c) (h' : RunsTo P ops x a c') : c = c' := by
  obtain ⟨o, ho, _, _, h1⟩ := h
  obtain ⟨o', ho', _, _, h2⟩ := h'
  obtain rfl : o = o' := Option.some.inj (ho.symm.trans ho')
  have e := (h1 W).symm.trans (h2 W)
  injection e with e1 e2
  have e3 := congrArg (fun w : World => w.heap[W.heap.size]?) e2
  simp only [World.alloc_heap_new] at e3
  injection e3 with e3
  injection e3
def MakesV (P : Program) (ops : Array Oper) (al : List Mk) (i : Nat) (a : Act) : Prop := ∀ x ∈ al, x.i = i → x.src = none → ∃ c, RunsTo P ops x a c

/-- the new blocks lie, each with what its operation has made; a copy bears what its source bears -/
def GoodV (P : Program) (ops : Array Oper) (al : List Mk) (B0 : Nat) (σ : Put) (a : Act) (W : World) : Prop :=
  ∀ x ∈ al, ∀ g, σ x.i = some g → (x.src = none → B0 ≤ g ∧ (∃ c, RunsTo P ops x a c ∧ Box W g c x.T) ∧ ∀ y ∈ al, y.src = none → ∀ g', σ y.i = some g' → x.i ≠ y.i → g ≠ g') ∧ ∀ j, x.src = some j → σ j = some g
theorem GoodV.stays {σ : Put} {a : Act} {W W' : World} (h : GoodV P ops al B0 σ a W) (hs : Stays B0 W W') : GoodV P ops al B0 σ a W' := fun x hx g hg =>
  ⟨fun hn => let ⟨h1, ⟨c, h2, h3⟩, h4⟩ := (h x hx g hg).1 hn
    ⟨h1, ⟨c, h2, hs.2 _ _ _ h1 h3⟩, h4⟩, (h x hx g hg).2⟩
theorem GoodV.put {σ : Put} {a : Act} {W : World} (hsel : ∀ (j : Nat) (o : Oper) cs b, ops[j]? = some o → o.op ≠ .select cs b) (h : GoodV P ops al B0 σ a W) (d : Option Tmp) (v : Value)
    (hd : ∀ x ∈ al, ∀ g, σ x.i = some g → x.src = none → ∀ o, ops[x.i]? = some o → ∀ t, d = some t → t ∉ o.looksAt ops) : GoodV P ops al B0 σ (a.put d v) W := fun x hx g hg =>
  ⟨fun hn => let ⟨h1, ⟨c, h2, h3⟩, h4⟩ := (h x hx g hg).1 hn
    ⟨h1, ⟨c, h2.put hsel d v (hd x hx g hg hn), h3⟩, h4⟩, (h x hx g hg).2⟩

def isMk (al : List Mk) (i : Nat) : Bool := al.any fun x => x.i == i
theorem isMk_iff {i : Nat} : isMk al i = true ↔ ∃ x ∈ al, x.i = i := by simp [isMk]

def anyV (P : Program) (md : Region.Mode) (ops : Array Oper) (U : World → Prop) (B0 : Nat) (M : Array Bool) (al : List Mk) (L : Array Bool → Act → (World → Prop) → Put → Prop) : Nat → Array Bool → Act → (World → Prop) → Put → Prop
  | 0, listed, a, D, σ => L listed a D σ
  | f + 1, listed, a, D, σ => Region.ready md ops listed ≠ [] ∧ ∀ i ∈ Region.ready md ops listed, M.getD i false = true ∧
      ((isMk al i = true ∧ MakesV P ops al i a ∧ ∀ g, anyV P md ops U B0 M al L f (listed.setIfInBounds i true) a D (upd σ i g)) ∨
       (isMk al i = false ∧ fOp P ops U B0 i (fun a' D' => anyV P md ops U B0 M al L f (listed.setIfInBounds i true) a' D' σ) a D))

/-- the other operations neither look at the new blocks' slots nor write them; what a maker looks at is written only by what it waits for; no maker looks at such a slot -/
structure CleanV (md : Region.Mode) (ops : Array Oper) (M : Array Bool) (al : List Mk) : Prop where
  head : ∀ i o, M.getD i false = true → isMk al i = false → ops[i]? = some o → ∀ x ∈ al, x.d ∉ o.looksAt ops ∧ o.dst ≠ some x.d
  made : ∀ x ∈ al, x.src = none → ∀ o, ops[x.i]? = some o → ∀ y ∈ al, y.d ∉ o.looksAt ops
  wait : ∀ x ∈ al, x.src = none → ∀ i o ox, M.getD i false = true → isMk al i = false → ops[i]? = some o → ops[x.i]? = some ox → (∀ d, o.dst = some d → d ∉ ox.looksAt ops) ∨ Region.waitsFor md ops x.i i = true
  copy : ∀ x ∈ al, ∀ j, x.src = some j → ∃ y ∈ al, y.i = j ∧ y.src = none ∧ y.n = x.n ∧ Region.waitsFor md ops x.i j = true ∧ ∃ o, ops[x.i]? = some o ∧ o.dst = some x.d ∧ (∀ y, Region.wanted o y = true) ∧ o.op = .assign (.tmp y.d)

theorem appV_same (hsel : ∀ (j : Nat) (o : Oper) cs b, ops[j]? = some o → o.op ≠ .select cs b) {i : Nat} {o : Oper} (ho : ops[i]? = some o) (σ : Put) :
    ∀ (l : List Mk) (a : Act), (∀ x ∈ l, x.d ∉ o.looksAt ops) → execOp (appV l σ a).eval o = execOp a.eval o ∧ Region.wanted o (yielded ops (appV l σ a).tmps) = Region.wanted o (yielded ops a.tmps)
  | [], _, _ => ⟨rfl, rfl⟩
  | x :: l, a, h => by
    have h1 := appV_same hsel ho σ l (putOneV σ a x) fun y hy => h y (by simp [hy])
    have e : execOp (putOneV σ a x).eval o = execOp a.eval o ∧ Region.wanted o (yielded ops (putOneV σ a x).tmps) = Region.wanted o (yielded ops a.tmps) := by
      unfold putOneV
      split
      · exact ⟨rfl, rfl⟩
      · exact ⟨execOp_put o (fun cs b => hsel i o cs b ho) a _ _ fun d hd => by cases hd; exact h x (by simp), wanted_put o a _ _ fun d hd => by cases hd; exact h x (by simp)⟩
    exact ⟨h1.1.trans e.1, h1.2.trans e.2⟩

theorem mk_eq : ∀ (l : List Mk), (l.map (·.i)).Nodup → ∀ u ∈ l, ∀ v ∈ l, u.i = v.i → u = v
  | z :: l, hn, u, hu, v, hv, he => by
    simp only [List.map_cons, List.nodup_cons, List.mem_map, not_exists, not_and] at hn
    rcases List.mem_cons.1 hu with hu2 | hu2 <;> rcases List.mem_cons.1 hv with hv2 | hv2
    · exact hu2.trans hv2.symm
    · exact absurd (he.symm.trans (congrArg (·.i) hu2)) (hn.1 v hv2)
    · exact absurd (he.trans (congrArg (·.i) hv2)) (hn.1 u hu2)
    · exact mk_eq l hn.2 u hu2 v hv2 he

theorem any_of_anyV {g0 : Nat} {L : Array Bool → Act → (World → Prop) → Put → Prop} {Q' : Exit → Act → World → Prop} (hsel : ∀ (j : Nat) (o : Oper) cs b, ops[j]? = some o → o.op ≠ .select cs b)
    (hn1 : (al.map (·.i)).Nodup) (hn2 : (al.map (·.d)).Nodup) (hcl : CleanV md ops M al)
    (hL : ∀ listed a D σ W, Cls U D → D W → GoodV P ops al B0 σ a W → L listed a D σ → wpAny P md ops Q' g0 listed (appV al σ a) W) :
    ∀ (f : Nat) (listed : Array Bool) (a : Act) (D : World → Prop) (σ : Put) (W : World), Closed md ops listed → (∀ x ∈ al, x.d < a.tmps.size) → Cls U D → D W → GoodV P ops al B0 σ a W → B0 ≤ W.heap.size →
      (∀ x ∈ al, ∀ g, σ x.i = some g → listed.getD x.i false = true) → (∀ x ∈ al, listed.getD x.i false = true → ∃ g, σ x.i = some g) →
      anyV P md ops U B0 M al L f listed a D σ → wpAny P md ops Q' (f + g0) listed (appV al σ a) W
  | 0, listed, a, D, σ, W, _, _, hD, hW, hG, _, _, _, h => by rw [Nat.zero_add]; exact hL _ _ _ _ _ hD hW hG h
  | f + 1, listed, a, D, σ, W, hC, hS, hD, hW, hG, hB, hno, hyes, h => by
    rw [show f + 1 + g0 = (f + g0) + 1 by omega]
    refine ⟨fun h0 => absurd h0 h.1, fun i hi => ?_⟩
    obtain ⟨him, h2⟩ := h.2 i hi
    have hun := (mem_ready.1 hi).1
    have hlt : i < listed.size := by
      rcases Nat.lt_or_ge i listed.size with h' | h'
      · exact h'
      · simp [Array.getElem?_eq_none h'] at hun
    have hset : ∀ k, (listed.setIfInBounds i true).getD k false = true ↔ k = i ∨ listed.getD k false = true := fun k => by
      by_cases hk : i = k
      · subst hk; simp [hlt]
      · rw [getD_set_ne false hk]
        exact ⟨.inr, fun h => h.resolve_left (Ne.symm hk)⟩
    have hnone : ∀ x ∈ al, x.i = i → σ i = none := fun x hx hxi => by
      cases hs : σ i with
      | none => rfl
      | some g =>
        have := hno x hx g (by rw [hxi]; exact hs)
        rw [hxi, getD_both hun] at this
        cases this
    have hno' : ∀ g, ∀ x ∈ al, ∀ g', upd σ i g x.i = some g' → (listed.setIfInBounds i true).getD x.i false = true := fun g x hx g' hg' => by
      rw [hset]
      unfold upd at hg'
      by_cases hxi : x.i = i
      · exact .inl hxi
      · rw [if_neg hxi] at hg'; exact .inr (hno x hx g' hg')
    have hyes' : ∀ g, ∀ x ∈ al, (listed.setIfInBounds i true).getD x.i false = true → ∃ g', upd σ i g x.i = some g' := fun g x hx hl => by
      unfold upd
      by_cases hxi : x.i = i
      · exact ⟨g, by rw [if_pos hxi]⟩
      · rw [if_neg hxi]
        exact hyes x hx (((hset x.i).1 hl).resolve_left hxi)
    rcases h2 with ⟨ha, hmk, h2⟩ | ⟨ha, h2⟩
    · obtain ⟨x, hx, hxi⟩ := isMk_iff.1 ha
      have hsn := hnone x hx hxi
      cases hsrc : x.src with
      | none =>
        obtain ⟨c, hr⟩ := hmk x hx hxi hsrc
        obtain ⟨o, ho, hd, hw, hrun⟩ := id hr
        rw [hxi] at ho
        unfold wpOp
        simp only [ho]
        rw [if_pos (hw _)]
        left
        unfold Oper.wp
        rw [(appV_same hsel ho σ al a (hcl.made x hx hsrc o (by rw [hxi]; exact ho))).1, hrun]
        simp only [Oper.upon, hd]
        rw [← appV_upd σ i W.heap.size al a x hx hxi hn1 hn2 hsn]
        have hst : Stays B0 W (W.alloc (.cells c x.T (0, 0))) := by rw [alloc_ext]; exact Stays.ext _ _ _
        refine any_of_anyV hsel hn1 hn2 hcl hL f _ a D _ _ (hC.set hi) hS hD (by rw [alloc_ext]; exact hD.grows _ _ hW) ?_ (Nat.le_trans hB hst.1) (hno' _) (hyes' _) (h2 W.heap.size)
        intro y hy g hg
        by_cases hyi : y.i = i
        · have hg0 : W.heap.size = g := by unfold upd at hg; rw [if_pos hyi] at hg; exact Option.some.inj hg
          obtain rfl : y = x := mk_eq al hn1 y hy x hx (hyi.trans hxi.symm)
          subst hg0
          refine ⟨fun _ => ⟨hB, ⟨c, hr, Box.new W _ _⟩, fun z hz hzs g' hg' hne => ?_⟩, fun j hj => by rw [hsrc] at hj; cases hj⟩
          unfold upd at hg'
          rw [if_neg (fun e => hne (hyi.trans e.symm))] at hg'
          obtain ⟨_, ⟨_, _, hb⟩, _⟩ := (hG z hz g' hg').1 hzs
          have := hb.lt
          omega
        · have hg1 : σ y.i = some g := by unfold upd at hg; rw [if_neg hyi] at hg; exact hg
          refine ⟨fun hys => ?_, fun j hj => ?_⟩
          · obtain ⟨g1, ⟨c', g2, g3⟩, g4⟩ := (hG y hy g hg1).1 hys
            refine ⟨g1, ⟨c', g2, hst.2 _ _ _ g1 g3⟩, fun z hz hzs g' hg' hne => ?_⟩
            unfold upd at hg'
            by_cases hzi : z.i = i
            · rw [if_pos hzi] at hg'
              obtain rfl := Option.some.inj hg'
              have := g3.lt
              omega
            · rw [if_neg hzi] at hg'
              exact g4 z hz hzs g' hg' hne
          · have := (hG y hy g hg1).2 j hj
            unfold upd
            by_cases hji : j = i
            · rw [hji, hsn] at this; cases this
            · rw [if_neg hji]; exact this
      | some j =>
        obtain ⟨y, hy, hyj, hys, hyn, hwf, o, ho, hd, hw, hop⟩ := hcl.copy x hx j hsrc
        rw [hxi] at ho
        obtain ⟨ox, hox, e, he, hb, hon⟩ := Region.waitsFor_spec hwf
        have hjl : listed.getD j false = true := by
          obtain ⟨_, o', ho', hall⟩ := mem_ready.1 hi
          rw [hxi] at hox
          obtain rfl : ox = o' := Option.some.inj (hox.symm.trans ho')
          have := hall e he hb
          rwa [hon] at this
        obtain ⟨g, hg⟩ := hyes y hy (by rw [hyj]; exact hjl)
        unfold wpOp
        simp only [ho]
        rw [if_pos (hw _)]
        left
        unfold Oper.wp
        have hev : (execOp (appV al σ a).eval o).run P W = .ok (.value (valV x.n g)) W := by
          have e1 : (appV al σ a).eval (.tmp y.d) = valV x.n g := by
            rw [← hyn]
            exact appV_get σ al a y hy hn2 g hg (hS y hy)
          unfold execOp
          simp only [hop]
          rw [e1]
          rfl
        rw [hev]
        simp only [Oper.upon, hd]
        rw [← appV_upd σ i g al a x hx hxi hn1 hn2 hsn]
        have hji : j ≠ i := fun e => by rw [e, getD_both hun] at hjl; cases hjl
        refine any_of_anyV hsel hn1 hn2 hcl hL f _ a D _ _ (hC.set hi) hS hD hW ?_ hB (hno' _) (hyes' _) (h2 g)
        intro z hz g' hg'
        by_cases hzi : z.i = i
        · have hg0 : g = g' := by unfold upd at hg'; rw [if_pos hzi] at hg'; exact Option.some.inj hg'
          obtain rfl : z = x := mk_eq al hn1 z hz x hx (hzi.trans hxi.symm)
          subst hg0
          refine ⟨fun h => (by rw [hsrc] at h; cases h), fun k hk => ?_⟩
          rw [hsrc] at hk
          obtain rfl : j = k := Option.some.inj hk
          unfold upd
          rw [if_neg hji, ← hyj]
          exact hg
        · have hg1 : σ z.i = some g' := by unfold upd at hg'; rw [if_neg hzi] at hg'; exact hg'
          refine ⟨fun hzs => ?_, fun k hk => ?_⟩
          · obtain ⟨g1, g2, g4⟩ := (hG z hz g' hg1).1 hzs
            refine ⟨g1, g2, fun u hu hus g'' hg'' hne => ?_⟩
            unfold upd at hg''
            by_cases hui : u.i = i
            · obtain rfl : u = x := mk_eq al hn1 u hu x hx (hui.trans hxi.symm)
              rw [hsrc] at hus; cases hus
            · rw [if_neg hui] at hg''
              exact g4 u hu hus g'' hg'' hne
          · have := (hG z hz g' hg1).2 k hk
            unfold upd
            by_cases hki : k = i
            · rw [hki, hsn] at this; cases this
            · rw [if_neg hki]; exact this
    · unfold fOp at h2
      unfold wpOp
      have hnoσ : ∀ x ∈ al, ∀ g, σ x.i = some g → (listed.setIfInBounds i true).getD x.i false = true := fun x hx g hg => (hset x.i).2 (.inr (hno x hx g hg))
      have hyesσ : ∀ x ∈ al, (listed.setIfInBounds i true).getD x.i false = true → ∃ g, σ x.i = some g := fun x hx hl => by
        refine hyes x hx (((hset x.i).1 hl).resolve_left fun e => ?_)
        rw [isMk_iff.2 ⟨x, hx, e⟩] at ha
        cases ha
      cases ho : ops[i]? with
      | none =>
        obtain ⟨_, o, ho', _⟩ := mem_ready.1 hi
        rw [ho] at ho'; cases ho'
      | some o =>
        simp only [ho] at h2 ⊢
        have hc := hcl.head i o him ha ho
        obtain ⟨e1, e2⟩ := appV_same hsel ho σ al a fun x hx => (hc x hx).1
        have e3 : ∀ v, (appV al σ a).put o.dst v = appV al σ (a.put o.dst v) := fun v => (appV_put σ al a _ _ fun x hx => (hc x hx).2).symm
        rw [e2]
        have hSp : ∀ v, ∀ x ∈ al, x.d < (a.put o.dst v).tmps.size := fun v x hx => by
          have := hS x hx
          unfold Act.put
          split
          · simpa using this
          · exact this
        have hGp : ∀ v W', GoodV P ops al B0 σ a W' → GoodV P ops al B0 σ (a.put o.dst v) W' := fun v W' h' => h'.put hsel _ _ fun x hx g hg hxs ox hox t ht => by
          rcases hcl.wait x hx hxs i o ox him ha ho hox with h5 | h5
          · exact h5 t ht
          · exfalso
            obtain ⟨ok, hok, e, he, hb, hon⟩ := Region.waitsFor_spec h5
            have := hC x.i ok hok (hno x hx g hg) e he hb
            rw [hon, getD_both hun] at this
            cases this
        have keep : ∀ v D' W', Cls U D' → D' W' → Stays B0 W W' → anyV P md ops U B0 M al L f (listed.setIfInBounds i true) (a.put o.dst v) D' σ → wpAny P md ops Q' (f + g0) (listed.setIfInBounds i true) ((appV al σ a).put o.dst v) W' := fun v D' W' hD' hW' hs h3 => by
          rw [e3]
          exact any_of_anyV hsel hn1 hn2 hcl hL f _ _ D' σ W' (hC.set hi) (hSp v) hD' hW' (hGp v W' (hG.stays hs)) (Nat.le_trans hB hs.1) hnoσ hyesσ h3
        have same : Stays B0 W W := ⟨Nat.le_refl _, fun _ _ _ _ h => h⟩
        by_cases hw : Region.wanted o (yielded ops a.tmps) = true
        · rw [if_pos hw] at h2 ⊢
          left
          rcases h2 with ⟨v, h3, h4⟩ | ⟨R, D', hD', h3, h4⟩
          · have h5 := h3 W (hD.sub W hW)
            unfold Oper.quietAt at h5
            unfold Oper.wp
            rw [e1]
            generalize (execOp a.eval o).run P W = r at *
            cases r with
            | ok n w' =>
              cases n <;> simp only [Oper.quietUpon] at h5 <;> simp only [Oper.upon]
              case value u =>
                obtain ⟨rfl, rfl⟩ := h5
                exact keep _ D _ hD hW same h4
              case skip =>
                obtain ⟨rfl, rfl⟩ := h5
                exact keep _ D _ hD hW same h4
              case enter fn args =>
                obtain ⟨rfl, hcall⟩ := h5
                refine hcall.mono fun e w'' ⟨he, p, hp⟩ => ?_
                subst he
                subst hp
                exact keep _ D _ hD (hD.grows _ _ hW) (Stays.ext _ _ _) h4
            | halt x w' => simp only [Oper.quietUpon] at h5
          · have h5 := h3 W hW
            unfold Oper.wp
            rw [e1]
            generalize (execOp a.eval o).run P W = r at *
            cases r with
            | ok n w' =>
              cases n <;> simp only [movesUpon] at h5 <;> simp only [Oper.upon]
              case enter fn args =>
                obtain ⟨rfl, hcall⟩ := h5
                refine hcall.mono fun e w'' ⟨v, he, hR, hDw, hs⟩ => ?_
                subst he
                exact keep v (D' v) _ (hD' v hR) hDw hs (h4 v hR)
            | halt x w' => simp only [movesUpon] at h5
        · rw [if_neg hw] at h2 ⊢
          exact keep _ D _ hD hW same h2

theorem anyV_first {i : Nat} {oi : Oper} {v : Value} {L : Array Bool → Act → (World → Prop) → Put → Prop} (hi : ops[i]? = some oi) (hal : isMk al i = false) (hsel : ∀ (j : Nat) (o : Oper) cs b, ops[j]? = some o → o.op ≠ .select cs b)
    (him : M.getD i false = true) (hlone : (∃ k, k ≠ i ∧ M.getD k false = true ∧ Region.waitsFor md ops k i = true) ∨ ∀ j ∈ Region.ready md ops (M.setIfInBounds i false), j = i) (hdone : ∀ listed a D σ, L listed a D σ → listed = M) :
    ∀ (f : Nat) (listed : Array Bool) (a : Act) (D : World → Prop) (σ : Put), Closed md ops listed →
      (∀ j oj, ops[j]? = some oj → j ≠ i → listed.getD j true = false → (∀ e ∈ oj.after, Region.binds md e = true → e.on ≠ i) → oi.apart ops oj = true) →
      i ∈ Region.ready md ops listed → YieldsP P ops U oi v a →
      anyV P md ops U B0 M al L f (listed.setIfInBounds i true) (a.put oi.dst v) D σ → anyV P md ops U B0 M al L (f + 1) listed a D σ := by
  intro f
  induction f with
  | zero =>
    intro listed a D σ hcl _ hr hy H
    have hun := (mem_ready.1 hr).1
    refine ⟨fun h => (by rw [h] at hr; cases hr), fun j hj => ?_⟩
    have e1 : listed = M.setIfInBounds i false := by
      rw [← hdone _ _ _ _ H]
      apply Array.ext_getElem?
      intro k
      by_cases hk : i = k
      · subst hk
        have hlt : i < listed.size := by
          rcases Nat.lt_or_ge i listed.size with h' | h'
          · exact h'
          · simp [Array.getElem?_eq_none h'] at hun
        simp [hlt] at hun ⊢
        exact hun
      · simp [Array.getElem?_setIfInBounds_ne hk]
    have hji : j = i := by
      rcases hlone with ⟨k, hk, hM, hw⟩ | hlone
      · obtain ⟨ok, hok, e, he, hb, hon⟩ := Region.waitsFor_spec hw
        have hlk : listed.getD k false = true := by
          rw [e1]
          rw [show (M.setIfInBounds i false).getD k false = M.getD k false by simp [Array.getElem?_setIfInBounds_ne (Ne.symm hk)]]
          exact hM
        have := hcl k ok hok hlk e he hb
        rw [hon, getD_both hun] at this
        cases this
      · exact hlone j (e1 ▸ hj)
    subst hji
    exact ⟨him, .inr ⟨hal, hy.fOp hi H⟩⟩
  | succ f ih =>
    intro listed a D σ hcl hfree hr hy H
    have hun := (mem_ready.1 hr).1
    refine ⟨fun h => (by rw [h] at hr; cases hr), fun j hj => ?_⟩
    by_cases hji : j = i
    · subst hji; exact ⟨him, .inr ⟨hal, hy.fOp hi H⟩⟩
    · obtain ⟨hjun, oj, hoj, hall⟩ := mem_ready.1 hj
      have hnot : ∀ e ∈ oj.after, Region.binds md e = true → e.on ≠ i := fun e he hb heq => by
        have h1 := hall e he hb
        rw [heq, getD_both hun] at h1
        cases h1
      have hfree' : ∀ k ok, ops[k]? = some ok → k ≠ i → (listed.setIfInBounds j true).getD k true = false →
          (∀ e ∈ ok.after, Region.binds md e = true → e.on ≠ i) → oi.apart ops ok = true := fun k ok hk hki hun hno => by
        refine hfree k ok hk hki ?_ hno
        by_cases hjk : j = k
        · subst hjk; exact hjun
        · rw [getD_set_ne true hjk] at hun; exact hun
      have hcomm : (listed.setIfInBounds j true).setIfInBounds i true = (listed.setIfInBounds i true).setIfInBounds j true := Array.setIfInBounds_comm _ _ hji
      obtain ⟨hMj, h12⟩ := H.2 j (ready_mono hj hji)
      refine ⟨hMj, ?_⟩
      rcases h12 with ⟨ha, hmk, h1⟩ | ⟨ha, h1⟩
      · refine .inl ⟨ha, fun x hx hxj hxs => ?_, fun g => ih _ _ _ _ (hcl.set hj) hfree' (ready_mono hr (Ne.symm hji)) hy (by rw [hcomm]; exact h1 g)⟩
        obtain ⟨c, hc⟩ := hmk x hx hxj hxs
        obtain ⟨g1, _, _⟩ := Oper.apart_spec (hfree j oj hoj hji hjun hnot)
        have hoj' : ops[x.i]? = some oj := by rw [hxj]; exact hoj
        exact ⟨c, hc.of_same hoj' (execOp_put oj (fun cs b => hsel j oj cs b hoj) a oi.dst v g1).symm⟩
      · refine .inr ⟨ha, ?_⟩
        have h2 := fOp_put (z := i + 1) hoj (hfree j oj hoj hji hjun hnot) (fun cs b => hsel i oi cs b hi) (fun cs b => hsel j oj cs b hoj) hy (fun e => absurd e (Nat.ne_of_lt (Nat.lt_succ_self i))) h1
        refine fOp_mono (fun a' D' h3 => ih (listed.setIfInBounds j true) a' D' σ (hcl.set hj) hfree' (ready_mono hr (Ne.symm hji)) h3.1.1 ?_) h2
        rw [hcomm]
        exact h3.2

/-- the walk: 'mv' marks the calls that may change the world; a maker stands behind what it looks at -/
def walkV (P : Program) (ops : Array Oper) (U : World → Prop) (B0 : Nat) (al : List Mk) (mv : Nat → Bool) (E : Act → (World → Prop) → Prop) : List (Nat × Oper) → Act → (World → Prop) → Prop
  | [], a, D => E a D
  | (k, o) :: l, a, D =>
      if isMk al k then MakesV P ops al k a ∧ walkV P ops U B0 al mv E l a D else
      if Region.wanted o (yielded ops a.tmps) then
        (if mv k then ∃ R D', (∀ v, R v → Cls U (D' v)) ∧ (∀ W, D W → movesUpon P B0 W R D' ((execOp a.eval o).run P W)) ∧ ∀ v, R v → walkV P ops U B0 al mv E l (a.put o.dst v) (D' v)
         else ∃ v, pureAt P o a U v ∧ walkV P ops U B0 al mv E l (a.put o.dst v) D)
      else walkV P ops U B0 al mv E l (a.put o.dst undef) D
/-- a piece of it without makers -/
theorem walkV_of {z : Nat} {mv : Nat → Bool} {E : Act → (World → Prop) → Prop} {r : List (Nat × Oper)} : ∀ (l : List (Nat × Oper)) (a : Act) (D : World → Prop), (l.all fun x => !isMk al x.1) = true →
    walkF P ops U B0 z mv (walkV P ops U B0 al mv E r) l a D → walkV P ops U B0 al mv E (l ++ r) a D
  | [], _, _, _, h => h
  | (k, o) :: l, a, D, hk, h => by
    simp only [List.all_cons, Bool.and_eq_true, Bool.not_eq_true'] at hk
    simp only [List.cons_append, walkV]
    rw [if_neg (by rw [hk.1]; exact Bool.false_ne_true)]
    simp only [walkF] at h
    split
    · rename_i hw
      rw [if_pos hw] at h
      split
      · rename_i hm
        rw [if_pos hm] at h
        obtain ⟨R, D', h1, h2, h3⟩ := h
        exact ⟨R, D', h1, h2, fun v hv => walkV_of l _ _ hk.2 (h3 v hv)⟩
      · rename_i hm
        rw [if_neg hm] at h
        obtain ⟨v, h1, _, h2⟩ := h
        exact ⟨v, h1, walkV_of l _ _ hk.2 h2⟩
    · rename_i hw
      rw [if_neg hw] at h
      exact walkV_of l _ _ hk.2 h
theorem walkV_seg (z n : Nat) {mv : Nat → Bool} {E : Act → (World → Prop) → Prop} {l : List (Nat × Oper)} {a : Act} {D : World → Prop} (hk : ((l.take n).all fun x => !isMk al x.1) = true)
    (h : walkF P ops U B0 z mv (walkV P ops U B0 al mv E (l.drop n)) (l.take n) a D) : walkV P ops U B0 al mv E l a D := by
  have := walkV_of (l.take n) a D hk h
  rwa [List.take_append_drop] at this
theorem walkV_mk {mv : Nat → Bool} {E : Act → (World → Prop) → Prop} {k : Nat} {o : Oper} {l : List (Nat × Oper)} {a : Act} {D : World → Prop} (hk : isMk al k = true) (h1 : MakesV P ops al k a) (h2 : walkV P ops U B0 al mv E l a D) : walkV P ops U B0 al mv E ((k, o) :: l) a D := by
  simp only [walkV]
  rw [if_pos hk]
  exact ⟨h1, h2⟩
theorem walkV_nil {mv : Nat → Bool} {E : Act → (World → Prop) → Prop} {a : Act} {D : World → Prop} (h : E a D) : walkV P ops U B0 al mv E [] a D := h
theorem makesV_one {i : Nat} {a : Act} (x : Mk) (c : Array Value) (hx : x ∈ al) (hi : x.i = i) (hn : (al.map (·.i)).Nodup) (h : RunsTo P ops x a c) : MakesV P ops al i a := fun y hy hyi _ => by
  obtain rfl := mk_eq al hn y hy x hx (hyi.trans hi.symm)
  exact ⟨c, h⟩
theorem walkV_mono {mv : Nat → Bool} {E E' : Act → (World → Prop) → Prop} (h : ∀ a D, E a D → E' a D) : ∀ (l : List (Nat × Oper)) (a : Act) (D : World → Prop), walkV P ops U B0 al mv E l a D → walkV P ops U B0 al mv E' l a D
  | [], a, D, hh => h a D hh
  | (k, o) :: l, a, D, hh => by
    simp only [walkV] at hh ⊢
    split
    · rename_i hk
      rw [if_pos hk] at hh
      exact ⟨hh.1, walkV_mono h l _ _ hh.2⟩
    · rename_i hk
      rw [if_neg hk] at hh
      split
      · rename_i hw
        rw [if_pos hw] at hh
        split
        · rename_i hm
          rw [if_pos hm] at hh
          obtain ⟨R, D', h1, h2, h3⟩ := hh
          exact ⟨R, D', h1, h2, fun v hv => walkV_mono h l _ _ (h3 v hv)⟩
        · rename_i hm
          rw [if_neg hm] at hh
          obtain ⟨v, h1, h2⟩ := hh
          exact ⟨v, h1, walkV_mono h l _ _ h2⟩
      · rename_i hw
        rw [if_neg hw] at hh
        exact walkV_mono h l _ _ hh

/-- operation i does not write what operation p looks at -/
def noLook (ops : Array Oper) (i p : Nat) : Bool := match ops[i]?, ops[p]? with
  | some o, some q => match o.dst with
    | some d => !(q.looksAt ops).contains d
    | none => true
  | _, _ => true
theorem noLook_spec {i p : Nat} {o q : Oper} (h : noLook ops i p = true) (ho : ops[i]? = some o) (hq : ops[p]? = some q) : ∀ d, o.dst = some d → d ∉ q.looksAt ops := fun d hd => by
  unfold noLook at h
  simp only [ho, hq, hd, Bool.not_eq_true'] at h
  intro hc
  have : (q.looksAt ops).contains d = true := by simpa using hc
  rw [this] at h
  cases h
/-- whatever makers have come up: operation i still waits for one that is none of them -/
def blockedS (md : Region.Mode) (ops : Array Oper) (al : List Mk) (S : Array Bool) (i : Nat) : Bool := match ops[i]? with
  | none => false
  | some o => o.after.any fun e => Region.binds md e && (!isMk al e.on && !S.getD e.on false)
def readyS (md : Region.Mode) (ops : Array Oper) (S : Array Bool) (i : Nat) : Bool := match ops[i]? with
  | none => false
  | some o => o.after.all fun e => !Region.binds md e || S.getD e.on false
/-- S: those that have come up and are no makers; pend: the makers that may come up -/
def ordS (md : Region.Mode) (ops : Array Oper) (al : List Mk) (mv : Nat → Bool) (M : Array Bool) : List Nat → List Nat → Array Bool → Bool
  | [], pend, S => (al.all fun x => x.src.isSome || pend.contains x.i) && (((List.range ops.size).all fun i => decide (M.getD i false = (S.getD i false || isMk al i))) &&
      ((List.range ops.size).all fun i => isMk al i || (S.getD i true || (blockedS md ops al S i || al.all fun x => Region.waitsFor md ops i x.i))))
  | k :: l, pend, S => if isMk al k then (ops[k]?).isSome && ordS md ops al mv M l (k :: pend) S else
      ((al.all fun x => x.src.isSome || (pend.contains x.i || blockedS md ops al S x.i)) && (((M.getD k false && !S.getD k true) && readyS md ops S k) && pend.all fun p => noLook ops k p)) &&
      ((if mv k then (List.range ops.size).all fun i => i == k || (isMk al i || (S.getD i true || blockedS md ops al S i)) else Region.free md ops S k) &&
       ordS md ops al mv M l pend (S.setIfInBounds k true))
/-- each maker waits only for others of the head and for makers ahead of it -/
def alOrd (md : Region.Mode) (ops : Array Oper) (al : List Mk) (M : Array Bool) : List Mk → List Nat → Bool
  | [], _ => true
  | x :: l, done => (match ops[x.i]? with
      | none => false
      | some o => o.after.all fun e => !Region.binds md e || ((M.getD e.on false && !isMk al e.on) || done.contains e.on)) && alOrd md ops al M l (x.i :: done)
theorem alOrd_ready {listed : Array Bool} (hsz : listed.size = ops.size) (hM : ∀ j, M.getD j false = true → isMk al j = false → listed.getD j false = true) :
    ∀ (l : List Mk) (done : List Nat), alOrd md ops al M l done = true → (∀ d ∈ done, listed.getD d false = true) → (∃ x ∈ l, listed.getD x.i false = false) → Region.ready md ops listed ≠ []
  | [], _, _, _, ⟨_, hx, _⟩ => by cases hx
  | x :: l, done, h, hd, hex => by
    simp only [alOrd, Bool.and_eq_true] at h
    cases ho : ops[x.i]? with
    | none => rw [ho] at h; simp at h
    | some o =>
      rw [ho] at h
      by_cases hx : listed.getD x.i false = true
      · refine alOrd_ready hsz hM l (x.i :: done) h.2 (fun d hd' => ?_) ?_
        · rcases List.mem_cons.1 hd' with rfl | hd'
          · exact hx
          · exact hd d hd'
        · obtain ⟨y, hy, hyl⟩ := hex
          rcases List.mem_cons.1 hy with rfl | hy
          · rw [hx] at hyl; cases hyl
          · exact ⟨y, hy, hyl⟩
      · have hlt : x.i < listed.size := by rw [hsz]; exact (Array.getElem?_eq_some_iff.1 ho).1
        have hm : x.i ∈ Region.ready md ops listed := mem_ready.2 ⟨by simp [hlt] at hx ⊢; exact hx, o, ho, fun e he hb => by
          have h1 := Array.all_eq_true_iff_forall_mem.1 h.1 e he
          simp only [hb, Bool.not_true, Bool.false_or, Bool.or_eq_true, Bool.and_eq_true, Bool.not_eq_true', List.contains_iff_mem] at h1
          rcases h1 with ⟨h2, h3⟩ | h2
          · exact hM _ h2 h3
          · exact hd _ h2⟩
        intro h0
        rw [h0] at hm
        cases hm
def unl (al : List Mk) (listed : Array Bool) : Nat := (al.filter fun x => !listed.getD x.i false).length
def nonmk (al : List Mk) (l : List Nat) : Nat := (l.filter fun k => !isMk al k).length
theorem unl_same {listed : Array Bool} {i : Nat} : ∀ (l : List Mk), (∀ x ∈ l, x.i ≠ i) → unl l (listed.setIfInBounds i true) = unl l listed := fun l h => by
  unfold unl
  congr 1
  refine List.filter_congr fun x hx => ?_
  rw [getD_set_ne false (Ne.symm (h x hx))]
theorem unl_set {listed : Array Bool} {i : Nat} (hlt : i < listed.size) (hun : listed.getD i false = false) : ∀ (l : List Mk), (l.map (·.i)).Nodup → (∃ x ∈ l, x.i = i) → unl l (listed.setIfInBounds i true) + 1 = unl l listed
  | [], _, ⟨_, h, _⟩ => by cases h
  | x :: l, hn, h => by
    simp only [List.map_cons, List.nodup_cons, List.mem_map, not_exists, not_and] at hn
    by_cases hx : x.i = i
    · have hr := unl_same (listed := listed) (i := i) l (fun y hy e => hn.1 y hy (e.trans hx.symm))
      have e1 : (listed.setIfInBounds i true).getD i false = true := by simp [hlt]
      unfold unl at hr ⊢
      simp only [List.filter_cons, hx, e1, hun, Bool.not_true, Bool.not_false, if_true, Bool.false_eq_true, if_false, List.length_cons]
      rw [hr]
    · have hr := unl_set hlt hun l hn.2 (by
        obtain ⟨y, hy, hyi⟩ := h
        rcases List.mem_cons.1 hy with rfl | hy
        · exact absurd hyi hx
        · exact ⟨y, hy, hyi⟩)
      unfold unl at hr ⊢
      simp only [List.filter_cons, getD_set_ne false (Ne.symm hx)]
      split
      · simp only [List.length_cons]; omega
      · exact hr
def loneV (md : Region.Mode) (ops : Array Oper) (M : Array Bool) : Bool := (List.range ops.size).all fun i => !M.getD i false ||
  (((List.range ops.size).any fun k => (k != i && M.getD k false) && Region.waitsFor md ops k i) || (Region.ready md ops (M.setIfInBounds i false)).all fun j => j == i)

theorem anyV_lex {mv : Nat → Bool} {E : Act → (World → Prop) → Prop} (hsel : ∀ (j : Nat) (o : Oper) cs b, ops[j]? = some o → o.op ≠ .select cs b)
    (hn1 : (al.map (·.i)).Nodup) (hms : M.size = ops.size) (hlone : loneV md ops M = true) (hMal : ∀ x ∈ al, M.getD x.i false = true) (hao : alOrd md ops al M al [] = true) :
    ∀ (F f : Nat) (l pend : List Nat) (S listed : Array Bool) (a : Act) (D : World → Prop) (σ : Put), f + l.length < F → Closed md ops listed → listed.size = ops.size → S.size = ops.size → (∀ j, isMk al j = false → listed.getD j false = S.getD j false) → (∀ j, isMk al j = true → S.getD j false = false) →
      f = nonmk al l + unl al listed → (∀ x ∈ al, listed.getD x.i false = true → ∃ g, σ x.i = some g) → (∀ k ∈ pend, MakesV P ops al k a) → ordS md ops al mv M l pend S = true →
      walkV P ops U B0 al mv E (withOps ops l) a D → anyV P md ops U B0 M al (fun listed a D σ => listed = M ∧ (∀ x ∈ al, ∃ g, σ x.i = some g) ∧ E a D) f listed a D σ := by
  have lone : ∀ i, M.getD i false = true → ((∃ k, k ≠ i ∧ M.getD k false = true ∧ Region.waitsFor md ops k i = true) ∨ ∀ j ∈ Region.ready md ops (M.setIfInBounds i false), j = i) := fun i hi => by
    have hs : i < ops.size := by
      refine Nat.lt_of_lt_of_le ?_ (Nat.le_of_eq hms)
      rcases Nat.lt_or_ge i M.size with h' | h'
      · exact h'
      · simp [Array.getElem?_eq_none h'] at hi
    have h1 := List.all_eq_true.1 hlone i (List.mem_range.2 hs)
    rw [hi] at h1
    simp only [Bool.not_true, Bool.false_or, Bool.or_eq_true, List.any_eq_true, Bool.and_eq_true, bne_iff_ne, List.all_eq_true, beq_iff_eq] at h1
    rcases h1 with ⟨k, _, ⟨hk, hM⟩, hw⟩ | h1
    · exact .inl ⟨k, hk, hM, hw⟩
    · exact .inr h1
  have pend_put : ∀ (pend : List Nat) (k : Nat) (o : Oper) (a : Act) (v : Value), ops[k]? = some o → (pend.all fun p => noLook ops k p) = true → (∀ p ∈ pend, MakesV P ops al p a) → ∀ p ∈ pend, MakesV P ops al p (a.put o.dst v) := fun pend k o a v ho hno hp p hpm x hx hxp hxs => by
    obtain ⟨c, hc⟩ := hp p hpm x hx hxp hxs
    obtain ⟨q, hq, _⟩ := id hc
    have h1 := List.all_eq_true.1 hno p hpm
    exact ⟨c, hc.of_same hq (execOp_put q (fun cs b => hsel _ q cs b hq) a o.dst v (noLook_spec h1 ho (by rw [← hxp]; exact hq)))⟩
  intro F
  induction F with
  | zero => intro f l pend S listed a D σ h; omega
  | succ F ih =>
    intro f l pend S listed a D σ hF hcl hsz hSs hS hSm hf hσ hp hB h
    -- a blocked operation is not ready
    have hblk : ∀ i ∈ Region.ready md ops listed, blockedS md ops al S i = true → False := fun i hi hb => by
      obtain ⟨_, o, ho, hall⟩ := mem_ready.1 hi
      unfold blockedS at hb
      rw [ho] at hb
      obtain ⟨e, he, hb2⟩ := Array.any_eq_true'.1 hb
      simp only [Bool.and_eq_true, Bool.not_eq_true'] at hb2
      have := hall e he hb2.1
      rw [hS _ hb2.2.1, hb2.2.2] at this
      cases this
    have hlt : ∀ i ∈ Region.ready md ops listed, i < listed.size ∧ listed.getD i false = false := fun i hi => by
      obtain ⟨hun, o, ho, _⟩ := mem_ready.1 hi
      exact ⟨by rw [hsz]; exact (Array.getElem?_eq_some_iff.1 ho).1, getD_both hun⟩
    have hnoS : ∀ i ∈ Region.ready md ops listed, isMk al i = false → S.getD i true = true → False := fun i hi hm hs => by
      obtain ⟨h1, h2⟩ := hlt i hi
      rw [hS i hm] at h2
      have h3 : i < S.size := by omega
      simp [h3] at hs h2
      rw [hs] at h2
      cases h2
    -- a maker that is ready
    have hmk : ∀ i ∈ Region.ready md ops listed, isMk al i = true → (al.all fun x => x.src.isSome || (pend.contains x.i || blockedS md ops al S x.i)) = true → ∀ f', f = f' + 1 → M.getD i false = true ∧ MakesV P ops al i a ∧ ∀ g, anyV P md ops U B0 M al (fun listed a D σ => listed = M ∧ (∀ x ∈ al, ∃ g, σ x.i = some g) ∧ E a D) f' (listed.setIfInBounds i true) a D (upd σ i g) := fun i hi hm hall f' hf' => by
      obtain ⟨x, hx, hxi⟩ := isMk_iff.1 hm
      obtain ⟨h1, h2⟩ := hlt i hi
      refine ⟨by rw [← hxi]; exact hMal x hx, fun y hy hyi hys => ?_, fun g => ?_⟩
      · have h3 := List.all_eq_true.1 hall y hy
        rw [hys] at h3
        simp only [Option.isSome_none, Bool.false_or, Bool.or_eq_true, List.contains_iff_mem] at h3
        rcases h3 with h3 | h3
        · exact hp _ h3 y hy rfl hys
        · exact (hblk i hi (by rw [← hyi]; exact h3)).elim
      · have hu := unl_set h1 h2 al hn1 ⟨x, hx, hxi⟩
        refine ih f' l pend S _ a D _ (by omega) (hcl.set hi) (by simpa using hsz) hSs (fun j hj => ?_) hSm (by omega) (fun y hy hl => ?_) hp hB h
        · have : i ≠ j := fun e => by rw [← e, hm] at hj; cases hj
          rw [getD_set_ne false this]
          exact hS j hj
        · unfold upd
          by_cases hyi : y.i = i
          · exact ⟨g, by rw [if_pos hyi]⟩
          · rw [if_neg hyi]
            rw [getD_set_ne false (Ne.symm hyi)] at hl
            exact hσ y hy hl
    cases l with
    | nil =>
      simp only [ordS, Bool.and_eq_true] at hB
      obtain ⟨hB1, hB2, hB3⟩ := hB
      have hMM : ∀ j, j < ops.size → M.getD j false = (S.getD j false || isMk al j) := fun j hj => by
        have := List.all_eq_true.1 hB2 j (List.mem_range.2 hj)
        simpa using this
      cases f with
      | zero =>
        have hall : ∀ x ∈ al, listed.getD x.i false = true := fun x hx => by
          have h0 : unl al listed = 0 := by omega
          unfold unl at h0
          have := List.filter_eq_nil_iff.1 (List.length_eq_zero_iff.1 h0) x hx
          simpa using this
        refine ⟨?_, fun x hx => hσ x hx (hall x hx), h⟩
        apply Array.ext (by omega)
        intro j hj hj'
        have h1 := hMM j (by omega)
        by_cases hm : isMk al j = true
        · obtain ⟨x, hx, hxj⟩ := isMk_iff.1 hm
          have h2 := hall x hx
          rw [hxj] at h2
          rw [hm] at h1
          simp [hj, hj'] at h1 h2
          rw [h1, h2]
        · have hm' : isMk al j = false := by simpa using hm
          have h2 := hS j hm'
          rw [hm', ← h2] at h1
          simp [hj, hj'] at h1
          exact h1.symm
      | succ f =>
        have hex : ∃ x ∈ al, listed.getD x.i false = false := by
          have h0 : 0 < unl al listed := by simp [nonmk] at hf; omega
          unfold unl at h0
          obtain ⟨x, hx⟩ := List.exists_mem_of_length_pos h0
          rw [List.mem_filter] at hx
          exact ⟨x, hx.1, by simpa using hx.2⟩
        refine ⟨alOrd_ready hsz (fun j hj hm => ?_) al [] hao (fun _ h => by cases h) hex, fun i hi => ?_⟩
        · rw [hS j hm]
          have hjl : j < ops.size := by
            refine Nat.lt_of_lt_of_le ?_ (Nat.le_of_eq hms)
            rcases Nat.lt_or_ge j M.size with h' | h'
            · exact h'
            · simp [Array.getElem?_eq_none h'] at hj
          rw [hMM j hjl, hm] at hj
          simpa using hj
        · by_cases hm : isMk al i = true
          · obtain ⟨h1, h2, h3⟩ := hmk i hi hm (List.all_eq_true.2 fun x hx => by
              have := List.all_eq_true.1 hB1 x hx
              simp only [Bool.or_eq_true] at this ⊢
              rcases this with h | h
              · exact .inl h
              · exact .inr (.inl h)) f rfl
            exact ⟨h1, .inl ⟨hm, h2, h3⟩⟩
          · exfalso
            have hm' : isMk al i = false := by simpa using hm
            have h1 := List.all_eq_true.1 hB3 i (List.mem_range.2 (by have := (hlt i hi).1; omega))
            simp only [hm', Bool.false_or, Bool.or_eq_true] at h1
            rcases h1 with h1 | h1 | h1
            · exact hnoS i hi hm' h1
            · exact hblk i hi h1
            · obtain ⟨x, hx, hxl⟩ := hex
              obtain ⟨o, ho, e, he, hb, hon⟩ := Region.waitsFor_spec (List.all_eq_true.1 h1 x hx)
              obtain ⟨_, o', ho', hall⟩ := mem_ready.1 hi
              obtain rfl : o = o' := Option.some.inj (ho.symm.trans ho')
              have := hall e he hb
              rw [hon, hxl] at this
              cases this
    | cons k l =>
      by_cases hk : isMk al k = true
      · simp only [ordS] at hB
        rw [if_pos hk] at hB
        simp only [Bool.and_eq_true] at hB
        obtain ⟨o, ho⟩ := Option.isSome_iff_exists.1 hB.1
        rw [show withOps ops (k :: l) = (k, o) :: withOps ops l by simp [withOps, ho]] at h
        simp only [walkV] at h
        rw [if_pos hk] at h
        have hnk : nonmk al (k :: l) = nonmk al l := by simp [nonmk, hk]
        exact ih f l (k :: pend) S listed a D σ (by simp at hF; omega) hcl hsz hSs hS hSm (by omega) hσ (fun p hpm => by
          rcases List.mem_cons.1 hpm with rfl | hpm
          · exact h.1
          · exact hp p hpm) hB.2 h.2
      · have hk' : isMk al k = false := by simpa using hk
        simp only [ordS] at hB
        rw [if_neg hk] at hB
        simp only [Bool.and_eq_true, Bool.not_eq_true'] at hB
        obtain ⟨⟨h1, ⟨⟨h2, h3⟩, h3'⟩, h6⟩, h4, h5⟩ := hB
        have hnk : nonmk al (k :: l) = nonmk al l + 1 := by simp [nonmk, hk']
        obtain ⟨f', hf'⟩ : ∃ f', f = f' + 1 := ⟨f - 1, by omega⟩
        unfold readyS at h3'
        cases ho : ops[k]? with
        | none => rw [ho] at h3'; cases h3'
        | some o =>
          rw [ho] at h3'
          have hkS : k < S.size := by rw [hSs]; exact (Array.getElem?_eq_some_iff.1 ho).1
          have hkr : k ∈ Region.ready md ops listed := mem_ready.2 ⟨by
            have h7 : S.getD k false = false := getD_both h3
            rw [← hS k hk'] at h7
            have h8 : k < listed.size := by omega
            simp [h8] at h7 ⊢
            exact h7, o, ho, fun e he hb => by
              have h7 := Array.all_eq_true_iff_forall_mem.1 h3' e he
              simp only [hb, Bool.not_true, Bool.false_or] at h7
              by_cases hm : isMk al e.on = true
              · rw [hSm _ hm] at h7; cases h7
              · rw [hS _ (by simpa using hm)]; exact h7⟩
          rw [show withOps ops (k :: l) = (k, o) :: withOps ops l by simp [withOps, ho]] at h
          have rest : ∀ v D', walkV P ops U B0 al mv E (withOps ops l) (a.put o.dst v) D' → anyV P md ops U B0 M al _ f' (listed.setIfInBounds k true) (a.put o.dst v) D' σ := fun v D' hh => by
            have hu := unl_same (listed := listed) (i := k) al (fun x hx e => by rw [isMk_iff.2 ⟨x, hx, e⟩] at hk'; cases hk')
            refine ih f' l pend _ _ _ D' σ (by simp at hF; omega) (hcl.set hkr) (by simpa using hsz) (by simpa using hSs) (fun j hj => ?_) (fun j hj => ?_) (by omega) (fun x hx hl => ?_) (pend_put pend k o a v ho h6 hp) h5 hh
            · by_cases hkj : k = j
              · subst hkj
                have h8 : k < listed.size := by omega
                simp [h8, hkS]
              · rw [getD_set_ne false hkj, getD_set_ne false hkj]; exact hS j hj
            · have : k ≠ j := fun e => by rw [e, hj] at hk'; cases hk'
              rw [getD_set_ne false this]; exact hSm j hj
            · have : k ≠ x.i := fun e => by rw [isMk_iff.2 ⟨x, hx, e.symm⟩] at hk'; cases hk'
              rw [getD_set_ne false this] at hl
              exact hσ x hx hl
          subst hf'
          by_cases hmv : mv k = true
          · rw [if_pos hmv] at h4
            refine ⟨fun h0 => (by rw [h0] at hkr; cases hkr), fun i hi => ?_⟩
            by_cases hik : i = k
            · subst hik
              refine ⟨h2, .inr ⟨hk', ?_⟩⟩
              simp only [walkV] at h
              rw [if_neg hk] at h
              unfold fOp
              simp only [ho]
              by_cases hw : Region.wanted o (yielded ops a.tmps) = true
              · rw [if_pos hw, if_pos hmv] at h
                rw [if_pos hw]
                obtain ⟨R, D', hD', hu, hk⟩ := h
                exact .inr ⟨R, D', hD', hu, fun v hv => rest _ _ (hk v hv)⟩
              · rw [if_neg hw] at h ⊢
                exact rest _ _ h
            · by_cases hm : isMk al i = true
              · obtain ⟨h7, h8, h9⟩ := hmk i hi hm h1 f' rfl
                exact ⟨h7, .inl ⟨hm, h8, h9⟩⟩
              · exfalso
                have hm' : isMk al i = false := by simpa using hm
                have h7 := List.all_eq_true.1 h4 i (List.mem_range.2 (by have := (hlt i hi).1; omega))
                simp only [hm', Bool.false_or, Bool.or_eq_true, beq_iff_eq] at h7
                rcases h7 with h7 | h7 | h7
                · exact hik h7
                · exact hnoS i hi hm' h7
                · exact hblk i hi h7
          · rw [if_neg hmv] at h4
            simp only [walkV] at h
            rw [if_neg hk] at h
            have hfr : ∀ j oj, ops[j]? = some oj → j ≠ k → listed.getD j true = false → (∀ e ∈ oj.after, Region.binds md e = true → e.on ≠ k) → o.apart ops oj = true := fun j oj hj hne hun hno => by
              refine Region.free_spec ho h4 j oj hj hne ?_ hno
              have hjl : j < S.size := by rw [hSs]; exact (Array.getElem?_eq_some_iff.1 hj).1
              have h7 : S.getD j false = false := by
                by_cases hm : isMk al j = true
                · exact hSm j hm
                · rw [← hS j (by simpa using hm)]; exact getD_both hun
              simp [hjl] at h7 ⊢
              exact h7
            have first := fun v (hy : YieldsP P ops U o v a) hh => anyV_first (P := P) (U := U) (B0 := B0) (al := al) (L := fun listed a D σ => listed = M ∧ (∀ x ∈ al, ∃ g, σ x.i = some g) ∧ E a D) ho hk' hsel h2 (lone k h2)
              (fun listed a D σ hL => hL.1) f' listed a D σ hcl hfr hkr hy hh
            by_cases hw : Region.wanted o (yielded ops a.tmps) = true
            · rw [if_pos hw, if_neg hmv] at h
              obtain ⟨v, hv, hk⟩ := h
              exact first v (.inl ⟨hw, hv⟩) (rest _ _ hk)
            · rw [if_neg hw] at h
              exact first undef (.inr ⟨by simpa using hw, rfl⟩) (rest _ _ h)

def cleanVB (md : Region.Mode) (ops : Array Oper) (M : Array Bool) (al : List Mk) : Bool :=
  ((List.range ops.size).all fun i => !M.getD i false || (isMk al i || match ops[i]? with
    | some o => al.all fun x => (!(o.looksAt ops).contains x.d && o.dst != some x.d) && (x.src.isSome || (noLook ops i x.i || Region.waitsFor md ops x.i i))
    | none => true)) &&
  al.all fun x => match x.src, ops[x.i]? with
    | none, some o => al.all fun y => !(o.looksAt ops).contains y.d
    | none, none => true
    | some _, none => false
    | some j, some o => al.any fun y => ((y.i == j && y.src.isNone) && (decide (y.n = x.n) && Region.waitsFor md ops x.i j)) && ((decide (o.dst = some x.d) && o.guard.isNone) && match o.op with
      | .assign (.tmp t) => t == y.d
      | _ => false)
theorem wanted_none {o : Oper} (h : o.guard.isNone = true) (y : Nat → Option Bool) : Region.wanted o y = true := by
  unfold Region.wanted
  cases hg : o.guard with
  | none => simp
  | some g => rw [hg] at h; cases h
theorem cleanVB_spec (h : cleanVB md ops M al = true) : CleanV md ops M al := by
  unfold cleanVB at h
  simp only [Bool.and_eq_true] at h
  obtain ⟨hh, hc⟩ := h
  have head : ∀ i o, M.getD i false = true → isMk al i = false → ops[i]? = some o → ∀ x ∈ al, (x.d ∉ o.looksAt ops ∧ o.dst ≠ some x.d) ∧ (x.src.isSome = true ∨ noLook ops i x.i = true ∨ Region.waitsFor md ops x.i i = true) := fun i o him hal ho x hx => by
    have h1 := List.all_eq_true.1 hh i (List.mem_range.2 (Array.getElem?_eq_some_iff.1 ho).1)
    rw [hal, ho, him] at h1
    simp only [Bool.false_or, Bool.not_true] at h1
    have h2 := List.all_eq_true.1 h1 x hx
    simp only [Bool.and_eq_true, Bool.not_eq_true', bne_iff_ne, Bool.or_eq_true] at h2
    refine ⟨⟨fun hc => ?_, h2.1.2⟩, h2.2⟩
    have : (o.looksAt ops).contains x.d = true := by simpa using hc
    rw [this] at h2
    exact absurd h2.1.1 (by simp)
  have each := fun x hx => List.all_eq_true.1 hc x hx
  refine ⟨fun i o h1 h2 h3 x hx => (head i o h1 h2 h3 x hx).1, fun x hx hxs o ho y hy hcon => ?_, fun x hx hxs i o ox h1 h2 h3 h4 => ?_, fun x hx j hj => ?_⟩
  · have h1 := each x hx
    rw [hxs, ho] at h1
    have h2 := List.all_eq_true.1 h1 y hy
    have : (o.looksAt ops).contains y.d = true := by simpa using hcon
    rw [this] at h2
    cases h2
  · rcases (head i o h1 h2 h3 x hx).2 with h5 | h5 | h5
    · rw [hxs] at h5; cases h5
    · exact .inl (noLook_spec h5 h3 h4)
    · exact .inr h5
  · have h1 := each x hx
    rw [hj] at h1
    cases ho : ops[x.i]? with
    | none => rw [ho] at h1; simp at h1
    | some o =>
      rw [ho] at h1
      simp only [List.any_eq_true, Bool.and_eq_true, beq_iff_eq, decide_eq_true_eq] at h1
      obtain ⟨y, hy, ⟨⟨h2, h3⟩, h4, h5⟩, ⟨h6, h7⟩, h8⟩ := h1
      refine ⟨y, hy, h2, by simpa using h3, h4, h5, o, rfl, h6, wanted_none h7, ?_⟩
      split at h8
      · rename_i t ht
        rw [ht]
        have : t = y.d := by simpa using h8
        rw [this]
      · cases h8

/-- which have come up when the head is done -/
def maskV (n : Nat) (al : List Mk) (ord : List Nat) : Array Bool := (al.map (·.i) ++ ord).foldl (fun l i => l.setIfInBounds i true) (Array.replicate n false)
def headV (al : List Mk) (ord : List Nat) : Nat := nonmk al ord + al.length
def floatVB (ops : Array Oper) (al : List Mk) (mv : Nat → Bool) (ord : List Nat) : Bool :=
  ((Region.noSelect ops && decide (headV al ord ≤ ops.size)) && (decide ((maskV ops.size al ord).size = ops.size) && loneV .any ops (maskV ops.size al ord))) &&
    ((decide (al.map (·.i)).Nodup && decide (al.map (·.d)).Nodup) && (cleanVB .any ops (maskV ops.size al ord) al && (((al.all fun x => (maskV ops.size al ord).getD x.i false) && alOrd .any ops al (maskV ops.size al ord) al []) && ordS .any ops al mv (maskV ops.size al ord) ord [] (Array.replicate ops.size false))))

/-- ONE WALK FOR EVERY ORDER; makers stand in 'ord' behind what they look at, copies stand not in it. -/
theorem wp_region_floatV {id : Nat} {Q : Exit → Act → World → Prop} {a : Act} {w : World} {l : List Oper} {D0 : World → Prop} {mv : Nat → Bool} (tl : List Nat) (ord : List Nat) (hm : P.follows .mixedOrders = true)
    (hB : (floatVB l.toArray al mv ord && (tailB l.toArray tl (maskV l.length al ord) && decide (tl.length = l.length - headV al ord))) = true) (hS : (al.all fun x => decide (x.d < a.tmps.size)) = true)
    (hD : Cls U D0) (hD0 : D0 w.drew) (hB0 : B0 ≤ w.heap.size)
    (h : walkV P l.toArray U B0 al mv (fun a' D' => ∀ σ W, (∀ x ∈ al, ∃ g, σ x.i = some g) → D' W → GoodV P l.toArray al B0 σ a' W → wpList P l.toArray Q (tl.filterMap fun k => l.toArray[k]?) (appV al σ a') W) (withOps l.toArray ord) a D0) : (Code.region id l.toArray true).wp P Q a w := by
  simp only [Bool.and_eq_true, decide_eq_true_eq] at hB
  obtain ⟨hB, htl, htn⟩ := hB
  simp only [floatVB, Bool.and_eq_true, decide_eq_true_eq] at hB
  obtain ⟨⟨⟨hsel, hlen⟩, hms, hlone⟩, ⟨hn1, hn2⟩, hcl, ⟨hMal, hao⟩, hord⟩ := hB
  have hsel' := fun (j : Nat) (o : Oper) cs b ho => Region.noSelect_spec (ops := l.toArray) hsel j o cs b ho
  have hu0 : unl al (Array.replicate l.toArray.size false) = al.length := by
    unfold unl
    rw [List.filter_eq_self.2 fun x _ => by rw [getD_replicate_false]; rfl]
  have H := anyV_lex (P := P) (U := U) (B0 := B0) (σ := fun _ => none) hsel' hn1 hms hlone (fun x hx => List.all_eq_true.1 hMal x hx) hao (headV al ord + ord.length + 1) (headV al ord) ord [] (Array.replicate l.toArray.size false) (Array.replicate l.toArray.size false) a D0 (by omega) (fun j oj _ hl => (by rw [getD_replicate_false] at hl; cases hl)) (by simp) (by simp) (fun _ _ => rfl) (fun j _ => getD_replicate_false _ _) (by rw [hu0]; rfl) (fun x _ hl => by rw [getD_replicate_false] at hl; cases hl) (fun _ h => by cases h) hord h
  refine wp_region_any hm ?_
  have R := any_of_anyV (Q' := Q) (g0 := l.toArray.size - headV al ord) hsel' hn1 hn2 (cleanVB_spec hcl) (fun listed a' D' σ W hD' hW hG hL => by
    obtain ⟨rfl, h2, h3⟩ := hL
    have e : l.toArray.size - headV al ord = tl.length := by rw [htn]; simp
    rw [e]
    exact any_of_tail tl _ _ W htl (h3 σ W h2 hW hG)) _ _ _ _ (fun _ => none) w.drew (fun j oj _ hl => (by rw [getD_replicate_false] at hl; cases hl)) (fun x hx => by simpa using List.all_eq_true.1 hS x hx) hD hD0 (fun x _ g hg => by cases hg) hB0 (fun _ _ _ hg => by cases hg) (fun x _ hl => by rw [getD_replicate_false] at hl; cases hl) H
  have e0 : ∀ (al : List Mk), appV al (fun _ => none) a = a := fun al => by
    induction al with
    | nil => rfl
    | cons x al ih => exact ih
  rw [e0, show headV al ord + (l.toArray.size - headV al ord) = l.toArray.size by omega] at R
  exact R

/-- what lies at a new block -/
theorem GoodV.box {σ : Put} {a : Act} {W : World} (h : GoodV P ops al B0 σ a W) {x : Mk} (hx : x ∈ al) {g : Nat} (hg : σ x.i = some g) (hs : x.src = none) {c : Array Value} (hr : RunsTo P ops x a c) : B0 ≤ g ∧ Box W g c x.T := by
  obtain ⟨h1, ⟨c', h2, h3⟩, _⟩ := (h x hx g hg).1 hs
  rw [hr.det W h2]
  exact ⟨h1, h3⟩
end
end Go.Proofs.YtbcgdhldkanecaaGreat
