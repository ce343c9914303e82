/- Several texts in one. -/
import Derived.Test.YtnaiaodnnmhdkaaGreatWatchC
/- The methods that the program calls through an interface: their names, read off the program's own operations; what each dynamic type runs. No conditions. -/
namespace Go.Proofs.YtnaiaodnnmhdkaaGreat
set_option linter.unusedVariables false
set_option linter.unusedSimpArgs false
open Go.RowKit Go.Shelf

/-- the names of the methods that an operation, a piece of code calls through an interface or hands on -/
def opName (o : Oper) : Option String := match o.op with
  | .call c => match c.callee with
    | .invoke _ m => some m
    | _ => none
  | .makeFunc f _ _ => match f with
    | .method m => some m
    | _ => none
  | _ => none
def opNames : List Oper → List String
  | [] => []
  | o :: l => match opName o with
    | some m => m :: opNames l
    | none => opNames l
def codeNames : Code → List String
  | .region _ ops _ => opNames ops.toList
  | .seq a b => codeNames a ++ codeNames b
  | .cond _ a b => codeNames a ++ codeNames b
  | .block _ c => codeNames c
  | .loop c => codeNames c
  | _ => []
abbrev theName {n : String} {x : Option String} (_ : x = some n) : String := n
def bodyNames (f : Func) : List String := match f.body with
  | some c => codeNames c
  | none => []
abbrev mMay : String := theName (show (bodyNames Tryz.f73)[0]? = some _ from rfl)
abbrev mField : String := theName (show (bodyNames Tryz.f73)[1]? = some _ from rfl)
abbrev mValues : String := theName (show (bodyNames Tryz.f73)[2]? = some _ from rfl)
abbrev mReads : String := theName (show (bodyNames Tryz.f14)[0]? = some _ from rfl)
end Go.Proofs.YtnaiaodnnmhdkaaGreat

/- Package watch: whether something is so of all corners of an area. Conditions: the area is valid; what the function that is handed in does. -/
namespace Go.Proofs.YtnaiaodnnmhdkaaGreat
set_option linter.unusedVariables false
set_option linter.unusedSimpArgs false
open Go.RowKit Go.Shelf

theorem corners_vecs {W : World} {b : Nat} {T : TypeId} {a : Ar4} (ha : ABd a) (hb : Box W b #[.int .i64 (a.1), .int .i64 (a.2.2.1), .int .i64 (a.1), .int .i64 (a.2.2.2), .int .i64 (a.2.1), .int .i64 (a.2.2.1), .int .i64 (a.2.1), .int .i64 (a.2.2.2)] T) : Vecs (fun _ => True) W (.slice (some ⟨b, 0, none⟩) 4 4) (cornersA a) := by
  obtain ⟨⟨h1, h2, h3⟩, h4, h5, h6⟩ := ha
  have i1 : I64 a.1 := by unfold I64; omega
  have i2 : I64 a.2.1 := by unfold I64; omega
  have i3 : I64 a.2.2.1 := by unfold I64; omega
  have i4 : I64 a.2.2.2 := by unfold I64; omega
  refine ⟨_, _, rfl, by simp [cornersA], fun _ => ⟨b, 0, rfl, trivial, hb.lt, fun i x hx => ?_⟩⟩
  have two : ∀ (j : Nat) (p : Int × Int), I64 p.1 → I64 p.2 → W.cell? ⟨b, j * 2, none⟩ = some (.int .i64 p.1) → W.cell? ⟨b, j * 2 + 1, none⟩ = some (.int .i64 p.2) → ∃ vs, RTwo W p vs ∧ vs.length = 2 ∧ ∀ q u, vs[q]? = some u → W.cell? ⟨b, 0 + j * 2 + q, none⟩ = some u := fun j p hi hj c0 c1 =>
    ⟨[.int .i64 p.1, .int .i64 p.2], ⟨rfl, hi, hj⟩, rfl, fun q u hq => by
      match q with
      | 0 => simp at hq; subst hq; rw [Nat.zero_add, Nat.add_zero]; exact c0
      | 1 => simp at hq; subst hq; rw [Nat.zero_add]; exact c1
      | q + 2 => simp at hq⟩
  match i with
  | 0 => simp [cornersA] at hx; subst hx; exact two 0 _ i1 i3 (hb.cell 0 rfl) (hb.cell 1 rfl)
  | 1 => simp [cornersA] at hx; subst hx; exact two 1 _ i1 i4 (hb.cell 2 rfl) (hb.cell 3 rfl)
  | 2 => simp [cornersA] at hx; subst hx; exact two 2 _ i2 i3 (hb.cell 4 rfl) (hb.cell 5 rfl)
  | 3 => simp [cornersA] at hx; subst hx; exact two 3 _ i2 i4 (hb.cell 6 rfl) (hb.cell 7 rfl)
  | i + 4 => simp [cornersA] at hx
theorem wall1_c (g : Nat) (cap : Array Value) (eg : ∀ args w, (callFunc g args).run Tryz.prog w = .ok (.enter g args) w) {p : Int × Int} {F : Bool} {b : Nat} {w : World} (hb : Box w b #[.func (.func g) #[] cap] 122)
    (hF : ∀ W, Up w W → Gives Tryz.prog g (#[.agg #[.int .i64 (p.1), .int .i64 (p.2)]] ++ cap) W (.bool F)) : Gives Tryz.prog 167 (#[.agg #[.int .i64 p.1, .int .i64 p.2]] ++ #[.pointer (some ⟨b, 0, none⟩)]) w (.bool (!F)) := by
  have c0 := hb.cell 0 rfl
  have lb := hb.lt
  have HF := hide hF
  show Gives Tryz.prog 167 #[.agg #[.int .i64 p.1, .int .i64 p.2], .pointer (some ⟨b, 0, none⟩)] w (.bool (!F))
  obtain ⟨p1, p2⟩ := p
  dsimp only at HF ⊢
  clear hb hF
  (unfold Gives; go_enter Tryz.func167, Tryz.ntmps167)
  go_wp2
  refine (HF.out _ (by repeat (first | with_reducible exact Up.refl _ | with_reducible apply Up.plus | apply Up.ext | apply Up.alloc | apply Up.drew | (refine Up.setCell ?_ (by simp; try omega) _)))).mono ?_
  intro px
  go_wp2
  go_ret
  exact ⟨rfl, (by repeat (first | with_reducible exact Up.refl _ | with_reducible apply Up.plus | apply Up.ext | apply Up.alloc | apply Up.drew | (refine Up.setCell ?_ (by simp; try omega) _)))⟩
set_option maxRecDepth 100000 in
theorem wall1_m {m : String} {T : TypeId} {v v' : Value} (g : Nat) (hm : ∀ (n : Nat) w, (method (n + 1) T v m).run Tryz.prog w = .ok (g, v') w) (eg : ∀ args w, (callFunc g args).run Tryz.prog w = .ok (.enter g args) w) {p : Int × Int} {F : Bool} {b : Nat} {w : World} (hb : Box w b #[.func (.method m) #[.iface T v] #[]] 122)
    (hF : ∀ W, Up w W → Gives Tryz.prog g (#[v'] ++ #[.agg #[.int .i64 (p.1), .int .i64 (p.2)]]) W (.bool F)) : Gives Tryz.prog 167 (#[.agg #[.int .i64 p.1, .int .i64 p.2]] ++ #[.pointer (some ⟨b, 0, none⟩)]) w (.bool (!F)) := by
  have c0 := hb.cell 0 rfl
  have lb := hb.lt
  have HF := hide hF
  show Gives Tryz.prog 167 #[.agg #[.int .i64 p.1, .int .i64 p.2], .pointer (some ⟨b, 0, none⟩)] w (.bool (!F))
  obtain ⟨p1, p2⟩ := p
  dsimp only at HF ⊢
  clear hb hF
  (unfold Gives; go_enter Tryz.func167, Tryz.ntmps167)
  go_wp2
  refine (HF.out _ (by repeat (first | with_reducible exact Up.refl _ | with_reducible apply Up.plus | apply Up.ext | apply Up.alloc | apply Up.drew | (refine Up.setCell ?_ (by simp; try omega) _)))).mono ?_
  intro px
  go_wp2
  go_ret
  exact ⟨rfl, (by repeat (first | with_reducible exact Up.refl _ | with_reducible apply Up.plus | apply Up.ext | apply Up.alloc | apply Up.drew | (refine Up.setCell ?_ (by simp; try omega) _)))⟩
set_option maxRecDepth 100000 in
set_option maxHeartbeats 2000000 in
theorem wall_any (fn : Fn) (first cap : Array Value) (F : Int × Int → Bool) {a : Ar4} (ha : ABd a) {w : World}
    (h1 : ∀ p W, p ∈ cornersA a → Up w W → Box W (w.heap.size + 1) #[.func fn first cap] 122 → Gives Tryz.prog 167 (#[.agg #[.int .i64 p.1, .int .i64 p.2]] ++ #[.pointer (some ⟨w.heap.size + 1, 0, none⟩)]) W (.bool (!F p))) :
    Gives Tryz.prog 129 #[.agg #[.int .i64 (a.1), .int .i64 (a.2.1), .int .i64 (a.2.2.1), .int .i64 (a.2.2.2)], .func fn first cap] w (.bool ((cornersA a).all F)) := by
  have HK := hide (fun W => wcorners_any a W)
  have HV := hide (fun W (hu : Up w W) (hb : Box W (w.heap.size + 1) #[.func fn first cap] 122) (b : Nat) (hx : Box W b #[.int .i64 (a.1), .int .i64 (a.2.2.1), .int .i64 (a.1), .int .i64 (a.2.2.2), .int .i64 (a.2.1), .int .i64 (a.2.2.1), .int .i64 (a.2.1), .int .i64 (a.2.2.2)] 240) =>
    anyvec_any 167 #[.pointer (some ⟨w.heap.size + 1, 0, none⟩)] (enters_of Tryz.func167 (by kernel_rfl) rfl) (fun p => !F p) (corners_vecs ha hx) (fun p W2 hp hu2 => h1 p W2 hp (hu.trans hu2) (hb.up hu2)))
  rw [all_of_any] at HV
  generalize (cornersA a).all F = R at *
  obtain ⟨x0, x1, y0, y1⟩ := a
  dsimp only at HK HV ⊢
  clear h1 ha
  (unfold Gives; go_enter Tryz.func129, Tryz.ntmps129)
  go_wp2_with fail
  go_at_call 165
  refine (HK.out _).mono ?_
  intro p1
  go_wp2_with fail
  go_at_call 166
  obtain ⟨Q, hQ⟩ : ∃ T, w.heap.size + 1 + 1 + p1.os.size = T := ⟨_, rfl⟩
  try rw [hQ]
  refine forgetK (fun V => Up w V ∧ Box V (w.heap.size + 1) #[.func fn first cap] 122 ∧ Box V Q #[.int .i64 (x0), .int .i64 (y0), .int .i64 (x0), .int .i64 (y1), .int .i64 (x1), .int .i64 (y0), .int .i64 (x1), .int .i64 (y1)] 240) ⟨(by repeat (first | with_reducible exact Up.refl _ | with_reducible apply Up.plus | apply Up.ext | apply Up.alloc | apply Up.drew | (refine Up.setCell ?_ (by simp; try omega) _))), (by repeat (first | exact Box.mk rfl | (refine Box.mk ?_; simp; done) | apply Box.ext | apply Box.drew | apply Box.alloc | apply Box.two1 | (refine Box.other ?_ (by omega) _ _))), by rw [← hQ]; exact (by repeat (first | exact Box.mk rfl | (refine Box.mk ?_; simp; done) | apply Box.ext | apply Box.drew | apply Box.alloc | apply Box.two1 | (refine Box.other ?_ (by omega) _ _)))⟩ ?_
  rintro V ⟨hu, hb, hx⟩
  refine (HV.out V hu hb Q hx).mono ?_
  intro p2
  go_wp2
  go_ret
  exact ⟨ret_bool (by simp), (by repeat (first | with_reducible exact hu | with_reducible exact Up.refl _ | apply Up.ext | apply Up.alloc | apply Up.drew | (refine Up.setCell ?_ (by simp [World.setCell]; try omega) _)))⟩
theorem wall_c (g : Nat) (cap : Array Value) (eg : ∀ args w, (callFunc g args).run Tryz.prog w = .ok (.enter g args) w) (F : Int × Int → Bool) {a : Ar4} (ha : ABd a) {w : World} (hF : ∀ p W, p ∈ cornersA a → Up w W → Gives Tryz.prog g (#[.agg #[.int .i64 (p.1), .int .i64 (p.2)]] ++ cap) W (.bool (F p))) :
    Gives Tryz.prog 129 #[.agg #[.int .i64 (a.1), .int .i64 (a.2.1), .int .i64 (a.2.2.1), .int .i64 (a.2.2.2)], .func (.func g) #[] cap] w (.bool ((cornersA a).all F)) :=
  wall_any (.func g) #[] cap F ha fun p _ hp hu hb => wall1_c g cap eg hb fun W2 hu2 => hF p W2 hp (hu.trans hu2)
theorem wall_m {m : String} {T : TypeId} {v v' : Value} (g : Nat) (hm : ∀ (n : Nat) w, (method (n + 1) T v m).run Tryz.prog w = .ok (g, v') w) (eg : ∀ args w, (callFunc g args).run Tryz.prog w = .ok (.enter g args) w) (F : Int × Int → Bool) {a : Ar4} (ha : ABd a) {w : World} (hF : ∀ p W, p ∈ cornersA a → Up w W → Gives Tryz.prog g (#[v'] ++ #[.agg #[.int .i64 (p.1), .int .i64 (p.2)]]) W (.bool (F p))) :
    Gives Tryz.prog 129 #[.agg #[.int .i64 (a.1), .int .i64 (a.2.1), .int .i64 (a.2.2.1), .int .i64 (a.2.2.2)], .func (.method m) #[.iface T v] #[]] w (.bool ((cornersA a).all F)) :=
  wall_any (.method m) #[.iface T v] #[] F ha fun p _ hp hu hb => wall1_m g hm eg hb fun W2 hu2 => hF p W2 hp (hu.trans hu2)
end Go.Proofs.YtnaiaodnnmhdkaaGreat

/- Package watch: whether an area may be seen. Conditions: bounds. -/
namespace Go.Proofs.YtnaiaodnnmhdkaaGreat
set_option linter.unusedVariables false
set_option linter.unusedSimpArgs false
open Go.RowKit Go.Shelf

theorem near_bd {k : KndD} {a : Ar4} (ha : ABd a) : PBd (nearK k a) := (near_in k ha).bd ha
set_option maxRecDepth 100000 in
theorem wrmay_any {k : KndD} {a : Ar4} (hk : KBd k) (ha : ABd a) (hs : k.sc = false) (w : World) : Gives Tryz.prog 310 #[.agg (postA k), .agg #[.int .i64 (a.1), .int .i64 (a.2.1), .int .i64 (a.2.2.1), .int .i64 (a.2.2.2)]] w (.bool (mayK k a)) := by
  have HN := hide (fun W => wnearest_any k a W)
  have HR := hide (fun W => wreaches_any hk (near_bd (k := k) ha) W)
  unfold mayK
  rw [hs, Bool.not_false, Bool.true_or, Bool.and_true]
  generalize reachK k (nearK k a) = R at *
  generalize nearK k a = P at *
  obtain ⟨P1, P2⟩ := P
  obtain ⟨x0, x1, y0, y1⟩ := a
  dsimp only at *
  unfold postA at *
  generalize k.wx = wx at *
  generalize k.wy = wy at *
  generalize k.far = fr at *
  generalize k.err = er at *
  clear hk ha hs
  (unfold Gives; go_enter Tryz.func310, Tryz.ntmps310)
  go_wp2_with fail
  ((first | with_reducible refine wp_region_ext2 (by kernel_rfl) (by kernel_rfl) ?_ | refine wp_region_ext (by kernel_rfl) (by kernel_rfl) ?_); (repeat (go_big_quiet_step ((first | (go_at_call 314; exact Gives.inRegion (HN.out _)) | (go_at_call 308; exact Gives.inRegion (HR.out _)))))); refine wpQuiet_nil ?_; intro _ hw'; obtain ⟨_, hw''⟩ := hw'; subst hw'')
  go_wp2
  go_ret
  exact ⟨rfl, (by repeat (first | with_reducible exact Up.refl _ | with_reducible apply Up.plus | apply Up.ext | apply Up.alloc | apply Up.drew | (refine Up.setCell ?_ (by simp; try omega) _)))⟩
set_option maxRecDepth 100000 in
theorem wmay1_any {k : KndD} {p : Int × Int} (hk : KBd k) (hp : PBd p) {b : Nat} {w : World} (hb : Box w b (scopeA k) 188) : Gives Tryz.prog 319 (#[.agg #[.int .i64 (p.1), .int .i64 (p.2)]] ++ #[.pointer (some ⟨b, 0, none⟩)]) w (.bool (behindK k p)) := by
  have HT := hide (fun W => wturns_any hk hp W)
  show Gives Tryz.prog 319 #[.agg #[.int .i64 (p.1), .int .i64 (p.2)], .pointer (some ⟨b, 0, none⟩)] w (.bool (behindK k p))
  unfold behindK
  obtain ⟨p1, p2⟩ := p
  dsimp only at *
  generalize crK k (p1, p2) = C at *
  generalize doK k (p1, p2) = D at *
  unfold scopeA at *
  generalize k.wx = wx at *
  generalize k.wy = wy at *
  generalize k.far = fr at *
  generalize k.err = er at *
  generalize k.dx = dx at *
  generalize k.dy = dy at *
  generalize k.lo = lo at *
  generalize k.hi = hi at *
  generalize k.wide = wd at *
  have c0 := hb.cell 0 rfl
  have c1 := hb.cell 1 rfl
  have c2 := hb.cell 2 rfl
  have c3 := hb.cell 3 rfl
  have c4 := hb.cell 4 rfl
  have c5 := hb.cell 5 rfl
  have c6 := hb.cell 6 rfl
  have c7 := hb.cell 7 rfl
  have c8 := hb.cell 8 rfl
  have lb := hb.lt
  clear hk hp hb
  (unfold Gives; go_enter Tryz.func319, Tryz.ntmps319)
  go_wp2_with (go_at_call 171; refine (HT.out _).mono ?_; intro _)
  go_ret
  exact ⟨rfl, (by repeat (first | with_reducible exact Up.refl _ | with_reducible apply Up.plus | apply Up.ext | apply Up.alloc | apply Up.drew | (refine Up.setCell ?_ (by simp; try omega) _)))⟩
set_option maxRecDepth 100000 in
theorem wmay2_any {k : KndD} {p : Int × Int} (hk : KBd k) (hp : PBd p) {b : Nat} {w : World} (hb : Box w b (scopeA k) 188) : Gives Tryz.prog 320 (#[.agg #[.int .i64 (p.1), .int .i64 (p.2)]] ++ #[.pointer (some ⟨b, 0, none⟩)]) w (.bool (belowK k p)) := by
  have HT := hide (fun W => wturns_any hk hp W)
  show Gives Tryz.prog 320 #[.agg #[.int .i64 (p.1), .int .i64 (p.2)], .pointer (some ⟨b, 0, none⟩)] w (.bool (belowK k p))
  unfold belowK
  have hc := cr_bdK hk hp
  have hd := wd_bdK hk hp hk.wide.1 hk.wide.2
  have hw := hk.wide
  have hn : -k.wide * doK k p = -(k.wide * doK k p) := Int.neg_mul _ _
  obtain ⟨p1, p2⟩ := p
  dsimp only at *
  have hc1 := hc.2.2.1
  generalize crK k (p1, p2) = C at *
  generalize doK k (p1, p2) = D at *
  unfold scopeA at *
  generalize k.wx = wx at *
  generalize k.wy = wy at *
  generalize k.far = fr at *
  generalize k.err = er at *
  generalize k.dx = dx at *
  generalize k.dy = dy at *
  generalize k.lo = lo at *
  generalize k.hi = hi at *
  generalize k.wide = wd at *
  have c0 := hb.cell 0 rfl
  have c1 := hb.cell 1 rfl
  have c2 := hb.cell 2 rfl
  have c3 := hb.cell 3 rfl
  have c4 := hb.cell 4 rfl
  have c5 := hb.cell 5 rfl
  have c6 := hb.cell 6 rfl
  have c7 := hb.cell 7 rfl
  have c8 := hb.cell 8 rfl
  have lb := hb.lt
  have hd1 : -558345748480000000 ≤ -wd * D ∧ -wd * D ≤ 558345748480000000 := by omega
  clear hk hp hb hc hn
  (unfold Gives; go_enter Tryz.func320, Tryz.ntmps320)
  go_wp2_with (go_at_call 171; refine (HT.out _).mono ?_; intro _)
  go_ret
  exact ⟨rfl, (by repeat (first | with_reducible exact Up.refl _ | with_reducible apply Up.plus | apply Up.ext | apply Up.alloc | apply Up.drew | (refine Up.setCell ?_ (by simp; try omega) _)))⟩
set_option maxRecDepth 100000 in
theorem wmay3_any {k : KndD} {p : Int × Int} (hk : KBd k) (hp : PBd p) {b : Nat} {w : World} (hb : Box w b (scopeA k) 188) : Gives Tryz.prog 321 (#[.agg #[.int .i64 (p.1), .int .i64 (p.2)]] ++ #[.pointer (some ⟨b, 0, none⟩)]) w (.bool (aboveK k p)) := by
  have HT := hide (fun W => wturns_any hk hp W)
  show Gives Tryz.prog 321 #[.agg #[.int .i64 (p.1), .int .i64 (p.2)], .pointer (some ⟨b, 0, none⟩)] w (.bool (aboveK k p))
  unfold aboveK
  have hc := cr_bdK hk hp
  have hd := wd_bdK hk hp hk.wide.1 hk.wide.2
  have hw := hk.wide
  have hn : -k.wide * doK k p = -(k.wide * doK k p) := Int.neg_mul _ _
  obtain ⟨p1, p2⟩ := p
  dsimp only at *
  have hc1 := hc.2.2.1
  generalize crK k (p1, p2) = C at *
  generalize doK k (p1, p2) = D at *
  unfold scopeA at *
  generalize k.wx = wx at *
  generalize k.wy = wy at *
  generalize k.far = fr at *
  generalize k.err = er at *
  generalize k.dx = dx at *
  generalize k.dy = dy at *
  generalize k.lo = lo at *
  generalize k.hi = hi at *
  generalize k.wide = wd at *
  have c0 := hb.cell 0 rfl
  have c1 := hb.cell 1 rfl
  have c2 := hb.cell 2 rfl
  have c3 := hb.cell 3 rfl
  have c4 := hb.cell 4 rfl
  have c5 := hb.cell 5 rfl
  have c6 := hb.cell 6 rfl
  have c7 := hb.cell 7 rfl
  have c8 := hb.cell 8 rfl
  have lb := hb.lt
  have hd1 : -558345748480000000 ≤ -wd * D ∧ -wd * D ≤ 558345748480000000 := by omega
  clear hk hp hb hc hn
  (unfold Gives; go_enter Tryz.func321, Tryz.ntmps321)
  go_wp2_with (go_at_call 171; refine (HT.out _).mono ?_; intro _)
  go_ret
  exact ⟨rfl, (by repeat (first | with_reducible exact Up.refl _ | with_reducible apply Up.plus | apply Up.ext | apply Up.alloc | apply Up.drew | (refine Up.setCell ?_ (by simp; try omega) _)))⟩
end Go.Proofs.YtnaiaodnnmhdkaaGreat

/- Package watch: whether an area may be seen by a scope. Conditions: bounds. -/
namespace Go.Proofs.YtnaiaodnnmhdkaaGreat
set_option linter.unusedVariables false
set_option linter.unusedSimpArgs false
open Go.RowKit Go.Shelf

set_option maxRecDepth 100000 in
set_option maxHeartbeats 1000000 in
theorem wsmay_any {k : KndD} {a : Ar4} (hk : KBd k) (ha : ABd a) (hs : k.sc = true) (w : World) : Gives Tryz.prog 316 #[.agg (scopeA k), .agg #[.int .i64 (a.1), .int .i64 (a.2.1), .int .i64 (a.2.2.1), .int .i64 (a.2.2.2)]] w (.bool (mayK k a)) := by
  have HN := hide (fun W => wnearest_any k a W)
  have HR := hide (fun W => wreaches_any hk (near_bd (k := k) ha) W)
  have HA1 := hide (fun W (_ : Up w W) (hb : Box W w.heap.size (scopeA k) 188) => wall_c 319 #[.pointer (some ⟨w.heap.size, 0, none⟩)] (enters_of Tryz.func319 (by kernel_rfl) rfl) (behindK k) ha (fun p W2 hp hu2 => wmay1_any hk ((corner_in ha p hp).bd ha) (hb.up hu2)))
  have HA2 := hide (fun W (_ : Up w W) (hb : Box W w.heap.size (scopeA k) 188) => wall_c 320 #[.pointer (some ⟨w.heap.size, 0, none⟩)] (enters_of Tryz.func320 (by kernel_rfl) rfl) (belowK k) ha (fun p W2 hp hu2 => wmay2_any hk ((corner_in ha p hp).bd ha) (hb.up hu2)))
  have HA3 := hide (fun W (_ : Up w W) (hb : Box W w.heap.size (scopeA k) 188) => wall_c 321 #[.pointer (some ⟨w.heap.size, 0, none⟩)] (enters_of Tryz.func321 (by kernel_rfl) rfl) (aboveK k) ha (fun p W2 hp hu2 => wmay3_any hk ((corner_in ha p hp).bd ha) (hb.up hu2)))
  unfold mayK
  rw [hs, Bool.not_true, Bool.false_or]
  generalize reachK k (nearK k a) = R at *
  generalize nearK k a = P at *
  generalize (cornersA a).all (behindK k) = A1 at *
  generalize (cornersA a).all (belowK k) = A2 at *
  generalize (cornersA a).all (aboveK k) = A3 at *
  obtain ⟨P1, P2⟩ := P
  obtain ⟨x0, x1, y0, y1⟩ := a
  dsimp only at *
  unfold postA at *
  unfold scopeA at *
  generalize k.wx = wx at *
  generalize k.wy = wy at *
  generalize k.far = fr at *
  generalize k.err = er at *
  generalize k.dx = dx at *
  generalize k.dy = dy at *
  generalize k.lo = lo at *
  generalize k.hi = hi at *
  generalize k.wide = wd at *
  clear hk ha hs
  cases R
  all_goals try cases A1
  all_goals try cases A2
  all_goals
    (unfold Gives; go_enter Tryz.func316, Tryz.ntmps316)
    go_wp2_with fail
    refine forgetW (fun V => Up w V ∧ Box V w.heap.size #[.int .i64 (wx), .int .i64 (wy), .int .i64 (fr), .int .i64 (er), .int .i64 (dx), .int .i64 (dy), .int .i64 (lo), .int .i64 (hi), .int .i64 (wd)] 188 ∧ Box V (w.heap.size + 1) #[.int .i64 (x0), .int .i64 (x1), .int .i64 (y0), .int .i64 (y1)] 46) ⟨(by repeat (first | with_reducible exact Up.refl _ | with_reducible apply Up.plus | apply Up.ext | apply Up.alloc | apply Up.drew | (refine Up.setCell ?_ (by simp; try omega) _))), (by repeat (first | exact Box.mk rfl | (refine Box.mk ?_; simp; done) | apply Box.ext | apply Box.drew | apply Box.alloc | apply Box.two1 | (refine Box.other ?_ (by omega) _ _))), (by repeat (first | exact Box.mk rfl | (refine Box.mk ?_; simp; done) | apply Box.ext | apply Box.drew | apply Box.alloc | apply Box.two1 | (refine Box.other ?_ (by omega) _ _)))⟩ ?_
    rintro V ⟨hu, hb, hx⟩
    have HB := hide (And.intro hu hb)
    have s0 := hb.cell 0 rfl
    have s1 := hb.cell 1 rfl
    have s2 := hb.cell 2 rfl
    have s3 := hb.cell 3 rfl
    have ls := hb.lt
    have a0 := hx.cell 0 rfl
    have a1 := hx.cell 1 rfl
    have a2 := hx.cell 2 rfl
    have a3 := hx.cell 3 rfl
    have la := hx.lt
    clear hu hb hx
    ((first | with_reducible refine wp_region_ext2 (by kernel_rfl) (by kernel_rfl) ?_ | refine wp_region_ext (by kernel_rfl) (by kernel_rfl) ?_); (repeat (go_big_quiet_step ((first | (go_at_call 314; with_reducible exact Gives.inRegion (HN.out _)) | (go_at_call 308; with_reducible exact Gives.inRegion (HR.out _)) | (go_at_call 129; with_reducible exact Gives.inRegion (HA1.out _ (HB.out.1.ext _) (HB.out.2.ext _))) | (go_at_call 129; with_reducible exact Gives.inRegion (HA2.out _ (HB.out.1.ext _) (HB.out.2.ext _))) | (go_at_call 129; with_reducible exact Gives.inRegion (HA3.out _ (HB.out.1.ext _) (HB.out.2.ext _))))))); refine wpQuiet_nil ?_; intro _ hw'; obtain ⟨_, hw''⟩ := hw'; subst hw'')
    go_wp2
    go_ret
    exact ⟨rfl, (by repeat (first | with_reducible exact HB.out.1 | with_reducible exact Up.refl _ | apply Up.ext | apply Up.alloc | apply Up.drew | (refine Up.setCell ?_ (by simp [World.setCell]; try omega) _)))⟩
end Go.Proofs.YtnaiaodnnmhdkaaGreat

