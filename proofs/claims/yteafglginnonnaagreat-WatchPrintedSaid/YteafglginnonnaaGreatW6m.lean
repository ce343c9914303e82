/- A sky, a place, and an offer that looks at it, made of numbers. No conditions. -/
import Derived.Test.YteafglginnonnaaGreatW6b
set_option linter.unusedVariables false
set_option linter.unusedSimpArgs false
namespace Go.Proofs.YteafglginnonnaaGreat
open Go.RowKit Go.Shelf
theorem SkyIn.form {K:Nat→Prop} {w:World} {v:Value} {s:SkyD} (h:SkyIn K w v s):∃ (a:Option Addr) (n c:Nat) (sa:Option Addr) (sn sc:Nat) (ca:Option Addr) (cn cc:Nat),v=.agg #[.slice a n c,.int .i64 s.home,.slice sa sn sc,.slice ca cn cc]∧SkyL K w a n c sa sn sc ca cn cc s∧sn=s.stations.length∧cn=s.catalogs.length:=by
 obtain ⟨vb,vs,vc,rfl,h1,h2,h3,h4⟩:=h
 obtain ⟨a,c,rfl,g1⟩:=h1
 obtain ⟨sa,sc,rfl,g2⟩:=h3
 obtain ⟨ca,cc,rfl,g3⟩:=h4
 exact ⟨a,_,c,sa,_,sc,ca,_,cc,rfl,⟨⟨a,c,rfl,g1⟩,h2,⟨sa,sc,rfl,g2⟩,⟨ca,cc,rfl,g3⟩⟩,rfl,rfl⟩
theorem SkyL.more {K K':Nat→Prop} {w:World} {a:Option Addr} {n c:Nat} {sa:Option Addr} {sn sc:Nat} {ca:Option Addr} {cn cc:Nat} {s:SkyD} (h:SkyL K w a n c sa sn sc ca cn cc s) (hK:∀ b,K b→K' b):SkyL K' w a n c sa sn sc ca cn cc s :=
 ⟨h.b.mono fun b _ hb=>hK b hb,h.h,Lies.mono h.st (fun b _ hb=>hK b hb) fun _ _ h=>h,Lies.mono h.ca (fun b _ hb=>hK b hb) fun _ _ h=>h⟩
end Go.Proofs.YteafglginnonnaaGreat
