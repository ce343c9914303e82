/- What the laws of layer 6 that are made of numbers keep of their worlds. No conditions. -/
import Derived.Test.YtnaiaodnnmhdkaaGreatW6m
import Derived.Test.YtnaiaodnnmhdkaaGreatWatchO
import Derived.Test.YtnaiaodnnmhdkaaGreatWatchR
namespace Go.Proofs.YtnaiaodnnmhdkaaGreat
set_option linter.unusedVariables false
set_option linter.unusedSimpArgs false
open Go.RowKit Go.Shelf

/-- a sky, a place, an offer: where they lie -/
structure M6 (w : World) (a : Option Addr) (n c : Nat) (sa : Option Addr) (sn sc : Nat) (ca : Option Addr) (cn cc : Nat) (s : SkyD) (home : Int) (X Y : Int) (o : OffD) (G : Nat) (V : World) : Prop where
  u : Up w V
  l : SkyL (fun b => w.heap.size ≤ b) V a n c sa sn sc ca cn cc s
  h : s.home = home
  s : Box V G #[.slice a n c, .int .i64 home, .slice sa sn sc, .slice ca cn cc] 28
  p : Box V (G + 1) #[.int .i64 (X), .int .i64 (Y)] 30
  o : Box V (G + 1 + 1) (offA o) 32
section
variable {w : World} {a : Option Addr} {n c : Nat} {sa : Option Addr} {sn sc : Nat} {ca : Option Addr} {cn cc : Nat} {s : SkyD} {home : Int} {X Y : Int} {o : OffD} {G : Nat} {V : World}
theorem M6.more {U : World} (h : M6 w a n c sa sn sc ca cn cc s home X Y o G V) (hu : Up V U) : M6 w a n c sa sn sc ca cn cc s home X Y o G U :=
  ⟨h.u.trans hu, h.l.up hu, h.h, h.s.up hu, h.p.up hu, h.o.up hu⟩
theorem M6.view (h : M6 w a n c sa sn sc ca cn cc s home X Y o G V) {x0 x1 y0 y1 : Int} {m1 m2 : Bool} {v1 v2 e : Int} (hv : viewV s o (x0, x1, y0, y1) = ((m1, m2, v1, v2), e)) :
    Gives Tryz.prog 22 #[.agg #[.slice a n c, .int .i64 home, .slice sa sn sc, .slice ca cn cc], .agg (offA o), .agg #[.int .i64 (x0), .int .i64 (x1), .int .i64 (y0), .int .i64 (y1)]] V (.tuple #[.agg #[.bool m1, .bool m2, .int .i64 v1, .int .i64 v2], .int .i64 e]) := by
  have := wView_any h.l o (x0, x1, y0, y1)
  rw [hv, h.h] at this
  exact this
theorem M6.field (h : M6 w a n c sa sn sc ca cn cc s home X Y o G V) {x y : Int} {F : Bool} (hv : fieldV s o (x, y) = F) :
    Gives Tryz.prog 18 #[.agg #[.slice a n c, .int .i64 home, .slice sa sn sc, .slice ca cn cc], .agg (offA o), .agg #[.int .i64 (x), .int .i64 (y)]] V (.bool F) := by
  have := wField_any h.l o (x, y)
  rw [hv, h.h] at this
  exact this
theorem M6.reads (h : M6 w a n c sa sn sc ca cn cc s home X Y o G V) {x y l1 l2 : Int} {is : Bool} (hv : readsV s o (x, y) = ((l1, l2), is)) :
    Gives Tryz.prog 14 #[.agg #[.slice a n c, .int .i64 home, .slice sa sn sc, .slice ca cn cc], .agg (offA o), .agg #[.int .i64 (x), .int .i64 (y)]] V (.tuple #[.agg #[.int .i64 (l1), .int .i64 (l2)], .bool is]) := by
  have := wReads_any h.l o (x, y)
  rw [hv, h.h] at this
  exact this
theorem M6.agrees (h : M6 w a n c sa sn sc ca cn cc s home X Y o G V) {i v x y : Int} {F : Bool} (hv : agreesV s o i v (x, y) = F) :
    Gives Tryz.prog 20 #[.agg #[.slice a n c, .int .i64 home, .slice sa sn sc, .slice ca cn cc], .agg (offA o), .agg #[.int .i64 (i), .int .i64 (v)], .agg #[.int .i64 (x), .int .i64 (y)]] V (.bool F) := by
  have := wAgrees_any h.l o i v (x, y)
  rw [hv, h.h] at this
  exact this
theorem M6.apart (h : M6 w a n c sa sn sc ca cn cc s home X Y o G V) {x0 x1 y0 y1 z0 z1 u0 u1 : Int} {F : Bool} (hv : apartV s o (x0, x1, y0, y1) (z0, z1, u0, u1) = F) :
    Gives Tryz.prog 24 #[.agg #[.slice a n c, .int .i64 home, .slice sa sn sc, .slice ca cn cc], .agg (offA o), .agg #[.int .i64 (x0), .int .i64 (x1), .int .i64 (y0), .int .i64 (y1)], .agg #[.int .i64 (z0), .int .i64 (z1), .int .i64 (u0), .int .i64 (u1)]] V (.bool F) := by
  have := wApart_any h.l o (x0, x1, y0, y1) (z0, z1, u0, u1)
  rw [hv, h.h] at this
  exact this
end
end Go.Proofs.YtnaiaodnnmhdkaaGreat
