/- Several texts in one. -/
import Derived.Test.YteafglginnonnaaGreatVI
import Derived.Test.YteafglginnonnaaGreatRdg
import Derived.Test.YteafglginnonnaaGreatWof
import Derived.Scope
import Derived.Test.YteafglginnonnaaGreatTreeM
import Derived.Test.YteafglginnonnaaGreatOfferA
import Derived.Test.YteafglginnonnaaGreatW6b
/- Package watch: Left. Conditions: what lies in memory. -/
set_option linter.unusedVariables false
set_option linter.unusedSimpArgs false
namespace Go.Proofs.YteafglginnonnaaGreat
open Go.RowKit Go.Shelf
theorem wp_scope_body {P:Program} {f:Func} {R:Ending→World→Prop} {c:Code} {a:Act} {w:World} (h:c.wp P (bodyPost P f R) a w):(Code.scope c).wp P (bodyPost P f R) a w:=by
 refine wp_scope_straight ?_
 rw [show Exit.noGoto (bodyPost P f R)=bodyPost P f R from by funext e a w;cases e <;> rfl]
 exact h
end Go.Proofs.YteafglginnonnaaGreat
/- watch.Best. Conditions: what lies in memory. -/
namespace Go.Proofs.YteafglginnonnaaGreat
open Go.RowKit Go.Shelf
def GivesBest (w:World) (l:List Int) (x y:Int) (e:Ending) (W:World):Prop:=∃ (a:Option Addr) (n c:Nat),e=.returned (.tuple #[.slice a n c,.int .i64 x,.int .i64 y])∧Lst TInt (fun _=>True) W (.slice a n c) l∧Up w W
structure BsO (V wr:World) (BB:Nat) (v:Value) (x:ChD):Prop where
 u:Up V wr
 b:Box wr BB #[.int .i64 x.left,.int .i64 x.cost,v] 127
 l:Lst TInt (fun b=>b≠BB) wr v x.ch
 z:V.heap.size≤BB
theorem BsO.up {V wr W:World} {BB:Nat} {v:Value} {x:ChD} (h:BsO V wr BB v x) (hu:Up wr W):BsO V W BB v x:=⟨h.u.trans hu,h.b.up hu,h.l.up hu,h.z⟩
structure BsI (V wi:World) (BB BX:Nat) (v:Value) (x:ChD) (lf cost:Int) (vx:Value) (cl:List Int):Prop where
 u:Up V wi
 b:Box wi BB #[.int .i64 x.left,.int .i64 x.cost,v] 127
 l:Lst TInt (fun b=>b≠BB∧b<BX) wi v x.ch
 x:Box wi BX #[.int .i64 lf,.int .i64 cost,vx] 127
 o:Own TInt 3 (BX+1) wi vx cl
 z:V.heap.size≤BB∧BB<BX
section
variable {V wi W:World} {BB BX:Nat} {v:Value} {x:ChD} {lf cost:Int} {vx:Value} {cl:List Int}
theorem BsI.up (h:BsI V wi BB BX v x lf cost vx cl) (hu:Up wi W):BsI V W BB BX v x lf cost vx cl:=⟨h.u.trans hu,h.b.up hu,h.l.up hu,h.x.up hu,h.o.up hu,h.z⟩
theorem BsI.out (h:BsI V wi BB BX v x lf cost vx cl):BsO V wi BB v x:=⟨h.u,h.b,h.l.mono fun _ _ hb=>hb.1,h.z.1⟩
theorem BsI.next {W':World} {vn:Value} {ln:List Int} {c':Int} (hu:Up V W') (hb:Box W' BB #[.int .i64 x.left,.int .i64 x.cost,v] 127) (hl:Lst TInt (fun b=>b≠BB∧b<BX) W' v x.ch) (hx:Box W' BX #[.int .i64 lf,.int .i64 cost,vx] 127) (ho:Own TInt 3 (BX+1) W' vn ln) (z:V.heap.size≤BB∧BB<BX) :
 BsI V ((W'.setCell ⟨BX,2,none⟩ vn).setCell ⟨BX,1,none⟩ (.int .i64 c')) BB BX v x lf c' vn ln:=by
 have hne:vn.ownBlock≠some BX:=fun e=>by have:=(ho.lt BX e).1;omega
 refine ⟨(hu.setCell (q:=⟨BX,2,none⟩) (by show _≤BX;omega) _).setCell (q:=⟨BX,1,none⟩) (by show _≤BX;omega) _,(hb.other (by omega) _ _).other (by omega) _ _,hl.keeps (((Keeps.refl _ _).set (b:=BX) (fun h=>by omega) _ _).set (b:=BX) (fun h=>by omega) _ _),(hx.set 2 vn).set 1 (.int .i64 c'),(ho.set hne _ _).set hne _ _,z⟩
theorem BsI.priced {W':World} {L:Int} (h:BsI V W' BB BX v x lf cost vx cl):BsI V (W'.setCell ⟨BX,0,none⟩ (.int .i64 L)) BB BX v x L cost vx cl:=by
 have hne:vx.ownBlock≠some BX:=fun e=>by have:=(h.o.lt BX e).1;omega
 have z:=h.z
 exact ⟨h.u.setCell (q:=⟨BX,0,none⟩) (by show _≤BX;omega) _,h.b.other (by omega) _ _,h.l.keeps ((Keeps.refl _ _).set (b:=BX) (fun h=>by omega) _ _),h.x.set 0 (.int .i64 L),h.o.set hne _ _,z⟩
theorem BsI.best {W':World} (h:BsI V W' BB BX v x lf cost vx cl) (hlen:cl.length≤1000):BsO V (((W'.setCell ⟨BB,0,none⟩ (.int .i64 lf)).setCell ⟨BB,1,none⟩ (.int .i64 cost)).setCell ⟨BB,2,none⟩ vx) BB vx ⟨lf,cost,cl⟩:=by
 have z:=h.z
 refine ⟨((h.u.setCell (q:=⟨BB,0,none⟩) (by show _≤BB;omega) _).setCell (q:=⟨BB,1,none⟩) (by show _≤BB;omega) _).setCell (q:=⟨BB,2,none⟩) (by show _≤BB;omega) _,((h.b.set 0 _).set 1 _).set 2 _,?_,z.1⟩
 have h1:Lst TInt (fun b=>b≠BB) W' vx cl:=(h.o.lies (by omega)).mono fun b _ hb=>by show b≠BB;omega
 exact h1.keeps ((((Keeps.refl _ _).set (b:=BB) (fun h=>h rfl) _ _).set (b:=BB) (fun h=>h rfl) _ _).set (b:=BB) (fun h=>h rfl) _ _)
end
theorem wrap_pow:∀ n:Nat,n≤10→wrap64 ((2:Int)^n)=((2^n:Nat):Int):=by decide +kernel
theorem bestF_dark {s:SkyD} {d:DriftD} {t:Int} {set:List BoxD} {offers:List OffD} {m g budget:Int} {f k:Nat} (h:darkL s offers m g (chL k offers.length)=false):bestF s d t set offers m g budget f (k+1)=bestF s d t set offers m g budget f k:=by
 rw [bestF_succ];unfold bstepV;rw [if_neg (by rw [h];decide)]
theorem bestF_dear {s:SkyD} {d:DriftD} {t:Int} {set:List BoxD} {offers:List OffD} {m g budget:Int} {f k:Nat} (h:budget<costL offers (chL k offers.length)):bestF s d t set offers m g budget f (k+1)=bestF s d t set offers m g budget f k:=by
 rw [bestF_succ];unfold bstepV;rw [if_pos (show budget<(chD s d t set offers f k).cost from h)];split <;> rfl
theorem bestF_take {s:SkyD} {d:DriftD} {t:Int} {set:List BoxD} {offers:List OffD} {m g budget:Int} {f k:Nat} (h:darkL s offers m g (chL k offers.length)=true) (h':¬ budget<costL offers (chL k offers.length)):bestF s d t set offers m g budget f (k+1)=if firstV (chD s d t set offers f k) (bestF s d t set offers m g budget f k)=true then chD s d t set offers f k else bestF s d t set offers m g budget f k:=by
 rw [bestF_succ];unfold bstepV;rw [if_pos h,if_neg (show ¬ budget<(chD s d t set offers f k).cost from h')]
theorem bestV_err {s:SkyD} {d:DriftD} {t:Int} {set:List BoxD} {offers:List OffD} {m g budget fails:Int} (h:bestE s d t set offers m g budget fails≠0):bestV s d t set offers m g budget fails=⟨0,0,[]⟩:=by unfold bestV;rw [if_neg h]
theorem offer_ok {s:SkyD} {d:DriftD} {t:Int} {set:List BoxD} {offers:List OffD} (h:watchE s d t set offers=0):∀ o∈offers,offE s o=0∧(0≤o.cost∧o.cost≤1000):=fun o ho=>by
 have h1:=(watchE_zero h).2.2.2 o ho
 have h2:offE s o=0:=by
  unfold offW at h1
  by_cases h3:offE s o=0
  · exact h3
  · exfalso;simp [h3] at h1
 refine ⟨h2,?_⟩
 unfold offE offE0 at h2
 simp only [withinB] at h2
 repeat' split at h2
 all_goals first|(simp at *;omega)|omega
set_option maxRecDepth 100000 in
set_option maxHeartbeats 40000000 in
theorem wBest_any (HD:DelC) {K:Nat→Prop} {w:World} {a sa ca:Option Addr} {n c sn sc cn cc:Nat} {s:SkyD} (hL:SkyL K w a n c sa sn sc ca cn cc s) (d:DriftD) (t:Int) {KB:Nat→Prop} {ba:Option Addr} {bn bc:Nat} {set:List BoxD} (hB:Boxes KB w (.slice ba bn bc) set) {KO:Nat→Prop} {oa:Option Addr} {on oc:Nat} {offers:List OffD} (hO:Lst TOff KO w (.slice oa on oc) offers) (mb g budget fails:Int):Calls Tryz.prog 24 #[.agg #[.slice a n c,.int .i64 s.home,.slice sa sn sc,.slice ca cn cc],.agg #[.int .i64 (d.l.1),.int .i64 (d.l.2),.int .i64 (d.h.1),.int .i64 (d.h.2),.int .i64 (d.g)],.int .i64 t,.slice ba bn bc,.slice oa on oc,.agg #[.int .i64 (mb),.int .i64 (g)],.int .i64 budget,.int .i64 fails] w (GivesBest w (bestV s d t set offers mb g budget fails).ch (bestV s d t set offers mb g budget fails).left (bestE s d t set offers mb g budget fails)):=by
 have HC:=hide (fun W (hu:Up w W)=>wwatch_any (hL.up hu) d t (hB.keeps (hu.keeps KB)) (hO.up hu))
 have hon:=(Offs.at hO).1
 have hbn:=(Boxes.at hB).1
 have hn:=(Bods.at hL.b).1
 have hnm:=(Bods.at hL.b).2.1
 have HIF:=hide (fun W=>wwithin_any fails 0 3 W)
 have HIB:=hide (fun W=>wwithin_any budget 0 1000 W)
 have HIG:=hide (fun W=>wwithin_any g 0 1000000 W)
 have HL:=hide hL
 have HO:=hide hO
 have HP:=hide (fun (h:watchE s d t set offers=0) W (hu:Up w W)=>plan_any (hL.up hu) d t (hB.keeps (hu.keeps KB)) (hO.up hu) h)
 obtain ⟨RE,hRE⟩:∃ RE,RE=bestE s d t set offers mb g budget fails:=⟨_,rfl⟩
 obtain ⟨RV,hRV⟩:∃ RV,RV=bestV s d t set offers mb g budget fails:=⟨_,rfl⟩
 have hV:=bestV_err (s:=s) (d:=d) (t:=t) (set:=set) (offers:=offers) (m:=mb) (g:=g) (budget:=budget) (fails:=fails)
 have hEb:=hRE
 unfold bestE at hEb
 rw [← hRE,← hRV]
 rw [← hRE,← hRV] at hV
 obtain ⟨E,hE⟩:∃ E,E=watchE s d t set offers:=⟨_,rfl⟩
 have HOK:=hide (offer_ok (s:=s) (d:=d) (t:=t) (set:=set) (offers:=offers))
 have HLEN:=hide (fun (h:watchE s d t set offers=0)=>(watchE_zero h).2.2.1)
 rw [← hE] at HC HP hEb HOK HLEN
 have HRV:=hide hRV
 have HRE:=hide hRE
 obtain ⟨home,hhome⟩:∃ h,s.home=h:=⟨_,rfl⟩
 rw [hhome] at HC HP
 rw [hhome]
 have HH:=hide hhome
 have HON:=hide (And.intro hon (And.intro hbn hn))
 rw [← hn] at hEb
 clear hL hB hO hon hbn hn hRV hRE hE hhome
 by_cases h0:E=0
 rotate_left
 · rw [if_neg h0] at hEb
   subst hEb
   rw [hV h0]
   have heb:(RE != 0)=true:=by simpa using h0
   clear h0 HP HOK HLEN hV HRE HRV
   go_enter Tryz.func24,Tryz.ntmps24
   go_wp2_with fail
   refine wp_scope_body ?_
   go_wp2_with fail
   go_at_call 10
   refine forgetK (fun wr=>Up w wr∧Box wr w.heap.size #[.slice a n c,.int .i64 home,.slice sa sn sc,.slice ca cn cc] 29∧Box wr (w.heap.size+1) #[.int .i64 (d.l.1),.int .i64 (d.l.2),.int .i64 (d.h.1),.int .i64 (d.h.2),.int .i64 (d.g)] 33∧Box wr (w.heap.size+1+1) #[.int .i64 (mb),.int .i64 (g)] 71) ⟨(by repeat (first|with_reducible (first|exact Up.refl _|apply Up.plus)|apply Up.ext|apply Up.alloc|apply Up.drew|refine Up.setCell ?_ (by simp;try omega) _)),(by repeat (first|exact Box.mk rfl|(refine Box.mk ?_;simp;done)|apply Box.ext|apply Box.drew|apply Box.alloc|apply Box.two1|refine Box.other ?_ (by omega) _ _)),(by repeat (first|exact Box.mk rfl|(refine Box.mk ?_;simp;done)|apply Box.ext|apply Box.drew|apply Box.alloc|apply Box.two1|refine Box.other ?_ (by omega) _ _)),(by repeat (first|exact Box.mk rfl|(refine Box.mk ?_;simp;done)|apply Box.ext|apply Box.drew|apply Box.alloc|apply Box.two1|refine Box.other ?_ (by omega) _ _))⟩ ?_
   rintro V0 ⟨hu,b0,b1,b2⟩
   have HB0:=hide (And.intro hu (And.intro b0 (And.intro b1 b2)))
   clear hu b0 b1 b2
   have s0:=(HB0.out.2.1).cell 0 rfl
   have s1:=(HB0.out.2.1).cell 1 rfl
   have s2:=(HB0.out.2.1).cell 2 rfl
   have s3:=(HB0.out.2.1).cell 3 rfl
   have ls:=(HB0.out.2.1).lt
   have dd0:=(HB0.out.2.2.1).cell 0 rfl
   have dd1:=(HB0.out.2.2.1).cell 1 rfl
   have dd2:=(HB0.out.2.2.1).cell 2 rfl
   have dd3:=(HB0.out.2.2.1).cell 3 rfl
   have dd4:=(HB0.out.2.2.1).cell 4 rfl
   have ldd:=(HB0.out.2.2.1).lt
   have mm0:=(HB0.out.2.2.2).cell 0 rfl
   have mm1:=(HB0.out.2.2.2).cell 1 rfl
   have lmm:=(HB0.out.2.2.2).lt
   refine (HC.out _ (by with_reducible repeat (first|exact HB0.out.1|exact Up.refl _|apply Up.ext|apply Up.alloc|apply Up.drew|refine Up.setCell ?_ (by simp only;omega) _))).mono ?_
   intro p1
   go_wp2
   exact bodyPost_ret (v:=.tuple #[.slice none 0 0,.int .i64 0,.int .i64 RE]) (by simp [results,Tryz.results24,go_sem]) rfl ⟨none,0,0,rfl,Lies.nil _ _ _ _ _ _,(by with_reducible repeat (first|exact HB0.out.1|exact Up.refl _|apply Up.ext|apply Up.alloc|apply Up.drew|refine Up.setCell ?_ (by simp only;omega) _))⟩
 subst h0
 rw [if_pos rfl] at hEb
 have HP2:=hide (HP.out rfl)
 have HOK2:=hide (HOK.out rfl)
 have HLEN2:=hide (HLEN.out rfl)
 clear HP HOK HLEN
 obtain ⟨F,hF⟩:∃ F,F=withinB fails 0 3:=⟨_,rfl⟩
 obtain ⟨G,hG⟩:∃ G,G=withinB budget 0 1000:=⟨_,rfl⟩
 obtain ⟨GG,hGG⟩:∃ GG,GG=withinB g 0 1000000:=⟨_,rfl⟩
 rw [← hF] at HIF
 rw [← hG] at HIB
 rw [← hGG] at HIG
 rw [← hF,← hG,← hGG] at hEb
 have HF:=hide hF
 have HG:=hide hG
 have HGG:=hide hGG
 clear hF hG hGG
 rcases F with _ | _
 · rw [if_neg (by simp)] at hEb
   subst hEb
   rw [hV (by decide)]
   clear hV HRE HRV HP2
   go_enter Tryz.func24,Tryz.ntmps24
   go_wp2_with fail
   refine wp_scope_body ?_
   go_wp2_with fail
   go_at_call 10
   refine forgetK (fun wr=>Up w wr∧Box wr w.heap.size #[.slice a n c,.int .i64 home,.slice sa sn sc,.slice ca cn cc] 29∧Box wr (w.heap.size+1) #[.int .i64 (d.l.1),.int .i64 (d.l.2),.int .i64 (d.h.1),.int .i64 (d.h.2),.int .i64 (d.g)] 33∧Box wr (w.heap.size+1+1) #[.int .i64 (mb),.int .i64 (g)] 71) ⟨(by repeat (first|with_reducible (first|exact Up.refl _|apply Up.plus)|apply Up.ext|apply Up.alloc|apply Up.drew|refine Up.setCell ?_ (by simp;try omega) _)),(by repeat (first|exact Box.mk rfl|(refine Box.mk ?_;simp;done)|apply Box.ext|apply Box.drew|apply Box.alloc|apply Box.two1|refine Box.other ?_ (by omega) _ _)),(by repeat (first|exact Box.mk rfl|(refine Box.mk ?_;simp;done)|apply Box.ext|apply Box.drew|apply Box.alloc|apply Box.two1|refine Box.other ?_ (by omega) _ _)),(by repeat (first|exact Box.mk rfl|(refine Box.mk ?_;simp;done)|apply Box.ext|apply Box.drew|apply Box.alloc|apply Box.two1|refine Box.other ?_ (by omega) _ _))⟩ ?_
   rintro V0 ⟨hu,b0,b1,b2⟩
   have HB0:=hide (And.intro hu (And.intro b0 (And.intro b1 b2)))
   clear hu b0 b1 b2
   have s0:=(HB0.out.2.1).cell 0 rfl
   have s1:=(HB0.out.2.1).cell 1 rfl
   have s2:=(HB0.out.2.1).cell 2 rfl
   have s3:=(HB0.out.2.1).cell 3 rfl
   have ls:=(HB0.out.2.1).lt
   have dd0:=(HB0.out.2.2.1).cell 0 rfl
   have dd1:=(HB0.out.2.2.1).cell 1 rfl
   have dd2:=(HB0.out.2.2.1).cell 2 rfl
   have dd3:=(HB0.out.2.2.1).cell 3 rfl
   have dd4:=(HB0.out.2.2.1).cell 4 rfl
   have ldd:=(HB0.out.2.2.1).lt
   have mm0:=(HB0.out.2.2.2).cell 0 rfl
   have mm1:=(HB0.out.2.2.2).cell 1 rfl
   have lmm:=(HB0.out.2.2.2).lt
   refine (HC.out _ (by with_reducible repeat (first|exact HB0.out.1|exact Up.refl _|apply Up.ext|apply Up.alloc|apply Up.drew|refine Up.setCell ?_ (by simp only;omega) _))).mono ?_
   intro p1
   go_wp2_with (first|(go_at_call 45;(with_reducible refine (HIF.out _).mono ?_);intro _)|(go_at_call 45;(with_reducible refine (HIB.out _).mono ?_);intro _)|(go_at_call 45;(with_reducible refine (HIG.out _).mono ?_);intro _))
   exact bodyPost_ret (v:=.tuple #[.slice none 0 0,.int .i64 0,.int .i64 2]) (by simp [results,Tryz.results24,go_sem]) rfl ⟨none,0,0,rfl,Lies.nil _ _ _ _ _ _,(by with_reducible repeat (first|exact HB0.out.1|exact Up.refl _|apply Up.ext|apply Up.alloc|apply Up.drew|refine Up.setCell ?_ (by simp only;omega) _))⟩
 rcases G with _ | _
 · rw [if_neg (by simp)] at hEb
   subst hEb
   rw [hV (by decide)]
   clear hV HRE HRV HP2
   go_enter Tryz.func24,Tryz.ntmps24
   go_wp2_with fail
   refine wp_scope_body ?_
   go_wp2_with fail
   go_at_call 10
   refine forgetK (fun wr=>Up w wr∧Box wr w.heap.size #[.slice a n c,.int .i64 home,.slice sa sn sc,.slice ca cn cc] 29∧Box wr (w.heap.size+1) #[.int .i64 (d.l.1),.int .i64 (d.l.2),.int .i64 (d.h.1),.int .i64 (d.h.2),.int .i64 (d.g)] 33∧Box wr (w.heap.size+1+1) #[.int .i64 (mb),.int .i64 (g)] 71) ⟨(by repeat (first|with_reducible (first|exact Up.refl _|apply Up.plus)|apply Up.ext|apply Up.alloc|apply Up.drew|refine Up.setCell ?_ (by simp;try omega) _)),(by repeat (first|exact Box.mk rfl|(refine Box.mk ?_;simp;done)|apply Box.ext|apply Box.drew|apply Box.alloc|apply Box.two1|refine Box.other ?_ (by omega) _ _)),(by repeat (first|exact Box.mk rfl|(refine Box.mk ?_;simp;done)|apply Box.ext|apply Box.drew|apply Box.alloc|apply Box.two1|refine Box.other ?_ (by omega) _ _)),(by repeat (first|exact Box.mk rfl|(refine Box.mk ?_;simp;done)|apply Box.ext|apply Box.drew|apply Box.alloc|apply Box.two1|refine Box.other ?_ (by omega) _ _))⟩ ?_
   rintro V0 ⟨hu,b0,b1,b2⟩
   have HB0:=hide (And.intro hu (And.intro b0 (And.intro b1 b2)))
   clear hu b0 b1 b2
   have s0:=(HB0.out.2.1).cell 0 rfl
   have s1:=(HB0.out.2.1).cell 1 rfl
   have s2:=(HB0.out.2.1).cell 2 rfl
   have s3:=(HB0.out.2.1).cell 3 rfl
   have ls:=(HB0.out.2.1).lt
   have dd0:=(HB0.out.2.2.1).cell 0 rfl
   have dd1:=(HB0.out.2.2.1).cell 1 rfl
   have dd2:=(HB0.out.2.2.1).cell 2 rfl
   have dd3:=(HB0.out.2.2.1).cell 3 rfl
   have dd4:=(HB0.out.2.2.1).cell 4 rfl
   have ldd:=(HB0.out.2.2.1).lt
   have mm0:=(HB0.out.2.2.2).cell 0 rfl
   have mm1:=(HB0.out.2.2.2).cell 1 rfl
   have lmm:=(HB0.out.2.2.2).lt
   refine (HC.out _ (by with_reducible repeat (first|exact HB0.out.1|exact Up.refl _|apply Up.ext|apply Up.alloc|apply Up.drew|refine Up.setCell ?_ (by simp only;omega) _))).mono ?_
   intro p1
   go_wp2_with (first|(go_at_call 45;(with_reducible refine (HIF.out _).mono ?_);intro _)|(go_at_call 45;(with_reducible refine (HIB.out _).mono ?_);intro _)|(go_at_call 45;(with_reducible refine (HIG.out _).mono ?_);intro _))
   exact bodyPost_ret (v:=.tuple #[.slice none 0 0,.int .i64 0,.int .i64 2]) (by simp [results,Tryz.results24,go_sem]) rfl ⟨none,0,0,rfl,Lies.nil _ _ _ _ _ _,(by with_reducible repeat (first|exact HB0.out.1|exact Up.refl _|apply Up.ext|apply Up.alloc|apply Up.drew|refine Up.setCell ?_ (by simp only;omega) _))⟩
 rw [if_pos ⟨rfl,rfl⟩] at hEb
 by_cases hm0:mb<0
 · rw [if_neg (by omega)] at hEb
   subst hEb
   rw [hV (by decide)]
   have dm:decide (mb<0)=true:=decide_eq_true hm0
   clear hV HRE HRV HP2 hm0
   go_enter Tryz.func24,Tryz.ntmps24
   go_wp2_with fail
   refine wp_scope_body ?_
   go_wp2_with fail
   go_at_call 10
   refine forgetK (fun wr=>Up w wr∧Box wr w.heap.size #[.slice a n c,.int .i64 home,.slice sa sn sc,.slice ca cn cc] 29∧Box wr (w.heap.size+1) #[.int .i64 (d.l.1),.int .i64 (d.l.2),.int .i64 (d.h.1),.int .i64 (d.h.2),.int .i64 (d.g)] 33∧Box wr (w.heap.size+1+1) #[.int .i64 (mb),.int .i64 (g)] 71) ⟨(by repeat (first|with_reducible (first|exact Up.refl _|apply Up.plus)|apply Up.ext|apply Up.alloc|apply Up.drew|refine Up.setCell ?_ (by simp;try omega) _)),(by repeat (first|exact Box.mk rfl|(refine Box.mk ?_;simp;done)|apply Box.ext|apply Box.drew|apply Box.alloc|apply Box.two1|refine Box.other ?_ (by omega) _ _)),(by repeat (first|exact Box.mk rfl|(refine Box.mk ?_;simp;done)|apply Box.ext|apply Box.drew|apply Box.alloc|apply Box.two1|refine Box.other ?_ (by omega) _ _)),(by repeat (first|exact Box.mk rfl|(refine Box.mk ?_;simp;done)|apply Box.ext|apply Box.drew|apply Box.alloc|apply Box.two1|refine Box.other ?_ (by omega) _ _))⟩ ?_
   rintro V0 ⟨hu,b0,b1,b2⟩
   have HB0:=hide (And.intro hu (And.intro b0 (And.intro b1 b2)))
   clear hu b0 b1 b2
   have s0:=(HB0.out.2.1).cell 0 rfl
   have s1:=(HB0.out.2.1).cell 1 rfl
   have s2:=(HB0.out.2.1).cell 2 rfl
   have s3:=(HB0.out.2.1).cell 3 rfl
   have ls:=(HB0.out.2.1).lt
   have dd0:=(HB0.out.2.2.1).cell 0 rfl
   have dd1:=(HB0.out.2.2.1).cell 1 rfl
   have dd2:=(HB0.out.2.2.1).cell 2 rfl
   have dd3:=(HB0.out.2.2.1).cell 3 rfl
   have dd4:=(HB0.out.2.2.1).cell 4 rfl
   have ldd:=(HB0.out.2.2.1).lt
   have mm0:=(HB0.out.2.2.2).cell 0 rfl
   have mm1:=(HB0.out.2.2.2).cell 1 rfl
   have lmm:=(HB0.out.2.2.2).lt
   refine (HC.out _ (by with_reducible repeat (first|exact HB0.out.1|exact Up.refl _|apply Up.ext|apply Up.alloc|apply Up.drew|refine Up.setCell ?_ (by simp only;omega) _))).mono ?_
   intro p1
   go_wp2_with (first|(go_at_call 45;(with_reducible refine (HIF.out _).mono ?_);intro _)|(go_at_call 45;(with_reducible refine (HIB.out _).mono ?_);intro _)|(go_at_call 45;(with_reducible refine (HIG.out _).mono ?_);intro _))
   exact bodyPost_ret (v:=.tuple #[.slice none 0 0,.int .i64 0,.int .i64 7]) (by simp [results,Tryz.results24,go_sem]) rfl ⟨none,0,0,rfl,Lies.nil _ _ _ _ _ _,(by with_reducible repeat (first|exact HB0.out.1|exact Up.refl _|apply Up.ext|apply Up.alloc|apply Up.drew|refine Up.setCell ?_ (by simp only;omega) _))⟩
 have dm:decide (mb<0)=false:=decide_eq_false hm0
 by_cases hm1:(n:Int)≤mb
 · rw [if_neg (by omega)] at hEb
   subst hEb
   rw [hV (by decide)]
   have dm1:decide ((n:Int)≤mb)=true:=decide_eq_true hm1
   clear hV HRE HRV HP2 hm0 hm1
   go_enter Tryz.func24,Tryz.ntmps24
   go_wp2_with fail
   refine wp_scope_body ?_
   go_wp2_with fail
   go_at_call 10
   refine forgetK (fun wr=>Up w wr∧Box wr w.heap.size #[.slice a n c,.int .i64 home,.slice sa sn sc,.slice ca cn cc] 29∧Box wr (w.heap.size+1) #[.int .i64 (d.l.1),.int .i64 (d.l.2),.int .i64 (d.h.1),.int .i64 (d.h.2),.int .i64 (d.g)] 33∧Box wr (w.heap.size+1+1) #[.int .i64 (mb),.int .i64 (g)] 71) ⟨(by repeat (first|with_reducible (first|exact Up.refl _|apply Up.plus)|apply Up.ext|apply Up.alloc|apply Up.drew|refine Up.setCell ?_ (by simp;try omega) _)),(by repeat (first|exact Box.mk rfl|(refine Box.mk ?_;simp;done)|apply Box.ext|apply Box.drew|apply Box.alloc|apply Box.two1|refine Box.other ?_ (by omega) _ _)),(by repeat (first|exact Box.mk rfl|(refine Box.mk ?_;simp;done)|apply Box.ext|apply Box.drew|apply Box.alloc|apply Box.two1|refine Box.other ?_ (by omega) _ _)),(by repeat (first|exact Box.mk rfl|(refine Box.mk ?_;simp;done)|apply Box.ext|apply Box.drew|apply Box.alloc|apply Box.two1|refine Box.other ?_ (by omega) _ _))⟩ ?_
   rintro V0 ⟨hu,b0,b1,b2⟩
   have HB0:=hide (And.intro hu (And.intro b0 (And.intro b1 b2)))
   clear hu b0 b1 b2
   have s0:=(HB0.out.2.1).cell 0 rfl
   have s1:=(HB0.out.2.1).cell 1 rfl
   have s2:=(HB0.out.2.1).cell 2 rfl
   have s3:=(HB0.out.2.1).cell 3 rfl
   have ls:=(HB0.out.2.1).lt
   have dd0:=(HB0.out.2.2.1).cell 0 rfl
   have dd1:=(HB0.out.2.2.1).cell 1 rfl
   have dd2:=(HB0.out.2.2.1).cell 2 rfl
   have dd3:=(HB0.out.2.2.1).cell 3 rfl
   have dd4:=(HB0.out.2.2.1).cell 4 rfl
   have ldd:=(HB0.out.2.2.1).lt
   have mm0:=(HB0.out.2.2.2).cell 0 rfl
   have mm1:=(HB0.out.2.2.2).cell 1 rfl
   have lmm:=(HB0.out.2.2.2).lt
   refine (HC.out _ (by with_reducible repeat (first|exact HB0.out.1|exact Up.refl _|apply Up.ext|apply Up.alloc|apply Up.drew|refine Up.setCell ?_ (by simp only;omega) _))).mono ?_
   intro p1
   go_wp2_with (first|(go_at_call 45;(with_reducible refine (HIF.out _).mono ?_);intro _)|(go_at_call 45;(with_reducible refine (HIB.out _).mono ?_);intro _)|(go_at_call 45;(with_reducible refine (HIG.out _).mono ?_);intro _))
   exact bodyPost_ret (v:=.tuple #[.slice none 0 0,.int .i64 0,.int .i64 7]) (by simp [results,Tryz.results24,go_sem]) rfl ⟨none,0,0,rfl,Lies.nil _ _ _ _ _ _,(by with_reducible repeat (first|exact HB0.out.1|exact Up.refl _|apply Up.ext|apply Up.alloc|apply Up.drew|refine Up.setCell ?_ (by simp only;omega) _))⟩
 have dm1:decide ((n:Int)≤mb)=false:=decide_eq_false hm1
 rw [if_pos (by omega)] at hEb
 rcases GG with _ | _
 · rw [if_neg (by simp)] at hEb
   subst hEb
   rw [hV (by decide)]
   clear hV HRE HRV HP2 hm0 hm1
   go_enter Tryz.func24,Tryz.ntmps24
   go_wp2_with fail
   refine wp_scope_body ?_
   go_wp2_with fail
   go_at_call 10
   refine forgetK (fun wr=>Up w wr∧Box wr w.heap.size #[.slice a n c,.int .i64 home,.slice sa sn sc,.slice ca cn cc] 29∧Box wr (w.heap.size+1) #[.int .i64 (d.l.1),.int .i64 (d.l.2),.int .i64 (d.h.1),.int .i64 (d.h.2),.int .i64 (d.g)] 33∧Box wr (w.heap.size+1+1) #[.int .i64 (mb),.int .i64 (g)] 71) ⟨(by repeat (first|with_reducible (first|exact Up.refl _|apply Up.plus)|apply Up.ext|apply Up.alloc|apply Up.drew|refine Up.setCell ?_ (by simp;try omega) _)),(by repeat (first|exact Box.mk rfl|(refine Box.mk ?_;simp;done)|apply Box.ext|apply Box.drew|apply Box.alloc|apply Box.two1|refine Box.other ?_ (by omega) _ _)),(by repeat (first|exact Box.mk rfl|(refine Box.mk ?_;simp;done)|apply Box.ext|apply Box.drew|apply Box.alloc|apply Box.two1|refine Box.other ?_ (by omega) _ _)),(by repeat (first|exact Box.mk rfl|(refine Box.mk ?_;simp;done)|apply Box.ext|apply Box.drew|apply Box.alloc|apply Box.two1|refine Box.other ?_ (by omega) _ _))⟩ ?_
   rintro V0 ⟨hu,b0,b1,b2⟩
   have HB0:=hide (And.intro hu (And.intro b0 (And.intro b1 b2)))
   clear hu b0 b1 b2
   have s0:=(HB0.out.2.1).cell 0 rfl
   have s1:=(HB0.out.2.1).cell 1 rfl
   have s2:=(HB0.out.2.1).cell 2 rfl
   have s3:=(HB0.out.2.1).cell 3 rfl
   have ls:=(HB0.out.2.1).lt
   have dd0:=(HB0.out.2.2.1).cell 0 rfl
   have dd1:=(HB0.out.2.2.1).cell 1 rfl
   have dd2:=(HB0.out.2.2.1).cell 2 rfl
   have dd3:=(HB0.out.2.2.1).cell 3 rfl
   have dd4:=(HB0.out.2.2.1).cell 4 rfl
   have ldd:=(HB0.out.2.2.1).lt
   have mm0:=(HB0.out.2.2.2).cell 0 rfl
   have mm1:=(HB0.out.2.2.2).cell 1 rfl
   have lmm:=(HB0.out.2.2.2).lt
   refine (HC.out _ (by with_reducible repeat (first|exact HB0.out.1|exact Up.refl _|apply Up.ext|apply Up.alloc|apply Up.drew|refine Up.setCell ?_ (by simp only;omega) _))).mono ?_
   intro p1
   go_wp2_with (first|(go_at_call 45;(with_reducible refine (HIF.out _).mono ?_);intro _)|(go_at_call 45;(with_reducible refine (HIB.out _).mono ?_);intro _)|(go_at_call 45;(with_reducible refine (HIG.out _).mono ?_);intro _))
   exact bodyPost_ret (v:=.tuple #[.slice none 0 0,.int .i64 0,.int .i64 2]) (by simp [results,Tryz.results24,go_sem]) rfl ⟨none,0,0,rfl,Lies.nil _ _ _ _ _ _,(by with_reducible repeat (first|exact HB0.out.1|exact Up.refl _|apply Up.ext|apply Up.alloc|apply Up.drew|refine Up.setCell ?_ (by simp only;omega) _))⟩
 rw [if_pos rfl] at hEb
 subst hEb
 have hgg:0≤g∧g≤1000000:=by have:=HGG.out.symm;simpa [withinB] using this
 have hff:0≤fails∧fails≤3:=by have:=HF.out.symm;simpa [withinB] using this
 obtain ⟨f,rfl⟩:=Int.eq_ofNat_of_zero_le hff.1
 have hRVe:RV=bestF s d t set offers mb g budget f (2^on):=by
  have:=HRV.out
  unfold bestV at this
  rw [← HRE.out,if_pos rfl,Int.toNat_natCast,← HON.out.1] at this
  exact this
 have hf3:f≤3:=by omega
 have HRV2:=hide hRVe
 have hon10:on≤10:=by have:=HLEN2.out.2;have:=HON.out.1;omega
 have hbn100:bn≤100:=by have:=HLEN2.out.1;have:=HON.out.2.1;omega
 clear hV HRV HRE hRVe hm0 hm1 hff HF HG HGG
 go_enter Tryz.func24,Tryz.ntmps24
 go_wp2_with fail
 refine wp_scope_body ?_
 go_wp2_with fail
 go_at_call 10
 refine forgetK (fun wr=>Up w wr∧Box wr w.heap.size #[.slice a n c,.int .i64 home,.slice sa sn sc,.slice ca cn cc] 29∧Box wr (w.heap.size+1) #[.int .i64 (d.l.1),.int .i64 (d.l.2),.int .i64 (d.h.1),.int .i64 (d.h.2),.int .i64 (d.g)] 33∧Box wr (w.heap.size+1+1) #[.int .i64 (mb),.int .i64 (g)] 71) ⟨(by repeat (first|with_reducible (first|exact Up.refl _|apply Up.plus)|apply Up.ext|apply Up.alloc|apply Up.drew|refine Up.setCell ?_ (by simp;try omega) _)),(by repeat (first|exact Box.mk rfl|(refine Box.mk ?_;simp;done)|apply Box.ext|apply Box.drew|apply Box.alloc|apply Box.two1|refine Box.other ?_ (by omega) _ _)),(by repeat (first|exact Box.mk rfl|(refine Box.mk ?_;simp;done)|apply Box.ext|apply Box.drew|apply Box.alloc|apply Box.two1|refine Box.other ?_ (by omega) _ _)),(by repeat (first|exact Box.mk rfl|(refine Box.mk ?_;simp;done)|apply Box.ext|apply Box.drew|apply Box.alloc|apply Box.two1|refine Box.other ?_ (by omega) _ _))⟩ ?_
 rintro V0 ⟨hu,b0,b1,b2⟩
 have HB0:=hide (And.intro hu (And.intro b0 (And.intro b1 b2)))
 clear hu b0 b1 b2
 have s0:=(HB0.out.2.1).cell 0 rfl
 have s1:=(HB0.out.2.1).cell 1 rfl
 have s2:=(HB0.out.2.1).cell 2 rfl
 have s3:=(HB0.out.2.1).cell 3 rfl
 have ls:=(HB0.out.2.1).lt
 have dd0:=(HB0.out.2.2.1).cell 0 rfl
 have dd1:=(HB0.out.2.2.1).cell 1 rfl
 have dd2:=(HB0.out.2.2.1).cell 2 rfl
 have dd3:=(HB0.out.2.2.1).cell 3 rfl
 have dd4:=(HB0.out.2.2.1).cell 4 rfl
 have ldd:=(HB0.out.2.2.1).lt
 have mm0:=(HB0.out.2.2.2).cell 0 rfl
 have mm1:=(HB0.out.2.2.2).cell 1 rfl
 have lmm:=(HB0.out.2.2.2).lt
 refine (HC.out _ (by with_reducible repeat (first|exact HB0.out.1|exact Up.refl _|apply Up.ext|apply Up.alloc|apply Up.drew|refine Up.setCell ?_ (by simp only;omega) _))).mono ?_
 intro p1
 go_wp2_with (first|(go_at_call 45;(with_reducible refine (HIF.out _).mono ?_);intro _)|(go_at_call 45;(with_reducible refine (HIB.out _).mono ?_);intro _)|(go_at_call 45;(with_reducible refine (HIG.out _).mono ?_);intro _))
 go_at_call 47
 refine (HP2.out _ (by with_reducible repeat (first|exact HB0.out.1|exact Up.refl _|apply Up.ext|apply Up.alloc|apply Up.drew|refine Up.setCell ?_ (by simp only;omega) _))).mono ?_
 rintro _ _ ⟨PB,MB,q,rfl,rfl,hp⟩
 rw [ext_ext] at hp
 have H0:=hide hp
 clear hp HP2 HC HIF HIB HIG s0 s1 s2 s3 ls dd0 dd1 dd2 dd3 dd4 ldd mm0 mm1 lmm dm dm1
 go_wp2_with fail
 go_at_call 48
 refine forgetK (fun V=>Up w V∧PlanT V PB MB oa on oc bn (tabV s d t set offers)∧Box V w.heap.size #[.slice a n c,.int .i64 home,.slice sa sn sc,.slice ca cn cc] 29∧Box V (w.heap.size+1+1) #[.int .i64 (mb),.int .i64 (g)] 71) ⟨(by with_reducible repeat (first|exact HB0.out.1|exact Up.refl _|apply Up.ext|apply Up.alloc|apply Up.drew|refine Up.setCell ?_ (by simp only;omega) _)),H0.out,by repeat (first|with_reducible exact HB0.out.2.1|with_reducible apply Box.ext|with_reducible apply Box.drew),by repeat (first|with_reducible exact HB0.out.2.2.2|with_reducible apply Box.ext|with_reducible apply Box.drew)⟩ ?_
 clear H0 HB0
 intro V h1
 have HV:=hide h1
 clear h1
 have HWO:=hide (fun (W:World) (hu:Up V W) (f:Nat) (hf:f≤3) {KK:Nat→Prop} {xa:Option Addr} {xn xc:Nat} {ch:List Int} (hch:Lst TInt KK W (.slice xa xn xc) ch) (hr:∀ o∈ch,0≤o∧o<on) (hl:ch.length≤1000)=>wworst_any HD f (by omega) (HV.out.2.1.up hu) (HO.out.up (HV.out.1.trans hu)) hch hr hl)
 have HDK:=hide (fun (W:World) (hu:Up V W) (o:OffD) (ho:o∈offers)=>wdark_any (HL.out.up (HV.out.1.trans hu)) o (HOK2.out o ho).1 (m:=mb) (g:=g) hgg)
 rw [HH.out] at HDK
 refine (HWO.out V (Up.refl _) 0 (by omega) (Lst.nil0 TInt (fun _=>True) V none 0) (by simp) (by simp)).mono ?_
 intro q2
 go_wp2_with fail
 obtain ⟨BB,hBB⟩:∃ g,g=V.heap.size+q2.os.size:=⟨_,rfl⟩
 try rw [← hBB]
 have hbase:=bestF_zero s d t set offers mb g budget f
 rw [← HON.out.2.1] at hbase
 refine forgetW (fun wr=>BsO V wr BB (.slice none 0 0) (bestF s d t set offers mb g budget f 0)) ⟨(by repeat (first|with_reducible (first|exact Up.refl _|apply Up.plus)|apply Up.ext|apply Up.alloc|apply Up.drew|refine Up.setCell ?_ (by simp;try omega) _)),by rw [hbase,hBB];exact Box.mk (ext_size _ _),by rw [hbase];exact Lst.nil0 _ _ _ _ _,by omega⟩ ?_
 clear hbase hBB
 intro W0 h0
 have H0:=hide h0
 clear h0
 apply wp_label
 unfold Exit.then
 dsimp only
 obtain ⟨P,hP⟩:∃ P:Nat,P=2^on:=⟨_,rfl⟩
 have hwr:=wrap_pow on hon10
 rw [← hP] at hwr HRV2
 go_wp2_with fail
 rw [hwr]
 have hP1:P≤1024:=by rw [hP];exact Nat.le_trans (Nat.pow_le_pow_right (by decide) hon10) (by decide)
 clear hwr hP
 go_loopw [75] (fun s75 wr=>∃ k:Nat,k≤P∧s75=.int .i64 k∧∃ v,Hid (BsO V wr BB v (bestF s d t set offers mb g budget f k))) (fun s75 _=>P - (intOf s75).toNat)
 case atStart=>exact ⟨0,by omega,rfl,_,hide (H0.out.up (by repeat (first|with_reducible (first|exact Up.refl _|apply Up.plus)|apply Up.ext|apply Up.alloc|apply Up.drew|refine Up.setCell ?_ (by simp;try omega) _)))⟩
 case round =>
  obtain ⟨k,hk,rfl,v,HS⟩:=hrel
  clear H0
  by_cases hlt:k<P
  · have hkb:decide ((k:Int)<P)=true:=by simp;omega
    have hkn:decide (k<P)=true:=by simp;omega
    have hvf:∃ va vn vc,v=.slice va vn vc:=let ⟨a,c,h,_⟩:=HS.out.l;⟨a,_,c,h⟩
    obtain ⟨va,vn,vc,rfl⟩:=hvf
    obtain ⟨BX,hBX⟩:∃ b,b=wr.heap.size:=⟨_,rfl⟩
    have hBBX:BB<BX:=by rw [hBX];exact HS.out.b.lt
    go_wp2_with fail
    try rw [← hBX]
    go_loopw [80] (fun s80 wi=>∃ i:Nat,i≤on∧s80=.int .i64 i∧Hid (darkL s offers mb g (chL k i)=true)∧∃ vx,Hid (BsI V wi BB BX (.slice va vn vc) (bestF s d t set offers mb g budget f k) 0 (costL offers (chL k i)) vx (chL k i))) (fun s80 _=>on - (intOf s80).toNat)
    case atStart=>exact ⟨0,by omega,rfl,hide rfl,.slice none 0 0,hide ⟨HS.out.u.trans (by repeat (first|with_reducible (first|exact Up.refl _|apply Up.plus)|apply Up.ext|apply Up.alloc|apply Up.drew|refine Up.setCell ?_ (by simp;try omega) _)),HS.out.b.up (by repeat (first|with_reducible (first|exact Up.refl _|apply Up.plus)|apply Up.ext|apply Up.alloc|apply Up.drew|refine Up.setCell ?_ (by simp;try omega) _)),(HS.out.l.mono (K':=fun b=>b≠BB∧b<BX) fun b hb h=>⟨h,by rw [hBX];exact hb⟩).up (by repeat (first|with_reducible (first|exact Up.refl _|apply Up.plus)|apply Up.ext|apply Up.alloc|apply Up.drew|refine Up.setCell ?_ (by simp;try omega) _)),by rw [hBX];exact (by repeat (first|exact Box.mk rfl|(refine Box.mk ?_;simp;done)|apply Box.ext|apply Box.drew|apply Box.alloc|apply Box.two1|refine Box.other ?_ (by omega) _ _)),Own.nil _ _ _ _,HS.out.z,hBBX⟩⟩
    case round =>
     obtain ⟨i,hi,rfl,HD2,vx,HJ⟩:=hrel
     clear HS hBX
     by_cases hli:i<on
     · have hib:decide ((i:Int)<on)=true:=by simp;omega
       have hin:decide (i<on)=true:=by simp;omega
       obtain ⟨ob,oo,o,rfl,hKo,how,hoo,c0,c1,c2,c3,c4,c5,c6,c7,c8,c9,c10⟩:=(Offs.at (HO.out.up (HV.out.1.trans HJ.out.u))).2.2 i hli
       have e1:=and_one_i64 ((k:Int) / 2^i)
       have HOO:=hide hoo
       obtain ⟨m,hm⟩:∃ m,m=(k:Int) / 2^i % 2:=⟨_,rfl⟩
       rw [← hm] at e1
       have HM:=hide (show bitB (k:Int) i=decide (m=1) by rw [hm];rfl)
       have hm01:m=0∨m=1:=by omega
       clear hKo hoo hm
       obtain ⟨B25,hB25⟩:∃ b,b=wr.heap.size:=⟨_,rfl⟩
       have hBX25:BX<B25:=by rw [hB25];exact HJ.out.x.lt
       rcases hm01 with rfl | rfl
       · have HN:=hide (chL_no (x:=(k:Int)) (k:=i) (by rw [HM.out];decide))
         clear HM hBX25 hB25
         go_wp2_with fail
         go_roundw
         case rel=>exact ⟨i+1,by omega,by go_num,hide (by rw [HN.out];exact HD2.out),vx,hide (by rw [HN.out];exact HJ.out.up (by repeat (first|with_reducible (first|exact Up.refl _|apply Up.plus)|apply Up.ext|apply Up.alloc|apply Up.drew|refine Up.setCell ?_ (by simp;try omega) _)))⟩
         case measure=>simp [intOf];omega
       · have hbit:bitB (k:Int) i=true:=by rw [HM.out];decide
         have HYES:=hide (chL_yes (x:=(k:Int)) (k:=i) hbit)
         have s0:=((HV.out.2.2.1).up HJ.out.u).cell 0 rfl
         have s1:=((HV.out.2.2.1).up HJ.out.u).cell 1 rfl
         have s2:=((HV.out.2.2.1).up HJ.out.u).cell 2 rfl
         have s3:=((HV.out.2.2.1).up HJ.out.u).cell 3 rfl
         have ls:=((HV.out.2.2.1).up HJ.out.u).lt
         have mm0:=((HV.out.2.2.2).up HJ.out.u).cell 0 rfl
         have mm1:=((HV.out.2.2.2).up HJ.out.u).cell 1 rfl
         have lmm:=((HV.out.2.2.2).up HJ.out.u).lt
         have HCO:=hide (costL_yes HOO.out hbit)
         have HDN:=hide (fun h=>darkL_no (s:=s) (m:=mb) (g:=g) (n:=offers.length) (by rw [← HON.out.1];exact hli) HOO.out hbit h)
         have HDY:=hide (fun h=>darkL_yes (s:=s) (m:=mb) (g:=g) HOO.out hbit HD2.out h)
         have hoc:=(HOK2.out o (List.mem_of_getElem? HOO.out)).2
         have HDO:=hide (fun (W:World) (hu:Up V W)=>HDK.out W hu o (List.mem_of_getElem? HOO.out))
         have hcb:=costL_bd (fun o ho=>(HOK2.out o ho).2) (chL (k:Int) i)
         have hcl:=chL_le (k:Int) i
         clear HM
         obtain ⟨DK,hDK⟩:∃ DK,DK=darkK s o mb g:=⟨_,rfl⟩
         rw [← hDK] at HDO HDN HDY
         clear hDK
         obtain ⟨C,hC⟩:∃ C,C=costL offers (chL (k:Int) i):=⟨_,rfl⟩
         rw [← hC] at HJ hcb HCO
         clear hC
         rcases DK with _ | _
         · have HBK:=hide (bestF_dark (d:=d) (t:=t) (set:=set) (budget:=budget) (f:=f) (HDN.out rfl))
           clear HDN HDY HCO hcb hcl hB25 hBX25
           go_wp2_with (go_at_call 55;refine (HDO.out _ (HJ.out.u.trans (by repeat (first|with_reducible (first|exact Up.refl _|apply Up.plus)|apply Up.ext|apply Up.alloc|apply Up.drew|refine Up.setCell ?_ (by simp;try omega) _)))).mono ?_;intro _)
           go_roundw
           case rel=>exact ⟨k+1,by omega,by go_num,_,hide (by rw [HBK.out];exact HJ.out.out.up (by repeat (first|with_reducible (first|exact Up.refl _|apply Up.plus)|apply Up.ext|apply Up.alloc|apply Up.drew|refine Up.setCell ?_ (by simp;try omega) _)))⟩
           case measure=>simp [intOf];omega
         · have HDY2:=hide (HDY.out rfl)
           clear HDN HDY HD2
           go_wp2_with (go_at_call 55;refine (HDO.out _ (HJ.out.u.trans (by repeat (first|with_reducible (first|exact Up.refl _|apply Up.plus)|apply Up.ext|apply Up.alloc|apply Up.drew|refine Up.setCell ?_ (by simp;try omega) _)))).mono ?_;intro _)
           try rw [← hB25]
           have hvx:∀ q,vx.ownBlock=some q→q<B25:=fun q hq=>by rw [hB25];exact (HJ.out.o.lt q hq).2
           refine forgetW (fun U=>BsI V U BB BX (.slice va vn vc) (bestF s d t set offers mb g budget f k) 0 C vx (chL k i)∧Box U B25 #[.int .i64 o.kind,.int .i64 o.station,.int .i64 o.catalog,.int .i64 o.tick,.int .i64 o.dx,.int .i64 o.dy,.int .i64 o.err,.int .i64 o.far,.int .i64 o.wide,.int .i64 o.cost,.bool o.sure] 50) ⟨HJ.out.up (by repeat (first|with_reducible (first|exact Up.refl _|apply Up.plus)|apply Up.ext|apply Up.alloc|apply Up.drew|refine Up.setCell ?_ (by simp;try omega) _)),by rw [hB25];exact (by repeat (first|exact Box.mk rfl|(refine Box.mk ?_;simp;done)|apply Box.ext|apply Box.drew|apply Box.alloc|apply Box.two1|refine Box.other ?_ (by omega) _ _))⟩ ?_
           clear HJ hB25 c0 c1 c2 c3 c4 c5 c6 c7 c8 c9 c10 s0 s1 s2 s3 ls mm0 mm1 lmm HDO
           intro U hU
           have HI:=hide hU
           clear hU
           have hS0:=hide (show Box U.drew BX #[.int .i64 0,.int .i64 C,vx] 127∧Box U.drew B25 #[.int .i64 o.kind,.int .i64 o.station,.int .i64 o.catalog,.int .i64 o.tick,.int .i64 o.dx,.int .i64 o.dy,.int .i64 o.err,.int .i64 o.far,.int .i64 o.wide,.int .i64 o.cost,.bool o.sure] 50 from ⟨HI.out.1.x.drew,HI.out.2.drew⟩)
           refine wp_region_M (fun b W'=>if b=true then Box W' BX #[.int .i64 0,.int .i64 C,vx] 127 else Box W' B25 #[.int .i64 o.kind,.int .i64 o.station,.int .i64 o.catalog,.int .i64 o.tick,.int .i64 o.dx,.int .i64 o.dy,.int .i64 o.err,.int .i64 o.far,.int .i64 o.wide,.int .i64 o.cost,.bool o.sure] 50) (fun b=>if b=true then [12,15] else [15]) (by kernel_rfl) ?_
           refine anyM_take true 0 (v:=(.pointer (some ⟨BX,2,none⟩))) rfl (by kernel_rfl) (fun _ _ _ h=>h) (.inl ⟨rfl,fun W' hW'=>by simp [go_sem]⟩) hS0.out.1 ?_
           simp only [Act.put,List.setIfInBounds_toArray,List.set_cons_zero,List.set_cons_succ]
           refine anyM_take true 1 (v:=vx) rfl (by kernel_rfl) (fun _ _ _ h=>h) (.inl ⟨rfl,fun W' hW'=>by have e:=Box.cell hW' 2 rfl;simp [go_sem,e]⟩) hS0.out.1 ?_
           simp only [Act.put,List.setIfInBounds_toArray,List.set_cons_zero,List.set_cons_succ]
           refine anyM_take true 2 (v:=(.int .i64 i)) rfl (by kernel_rfl) (fun _ _ _ h=>h) (.inl ⟨rfl,fun W' hW'=>by simp [go_sem]⟩) hS0.out.1 ?_
           simp only [Act.put,List.setIfInBounds_toArray,List.set_cons_zero,List.set_cons_succ]
           refine anyM_take true 5 (v:=(.pointer (some ⟨BX,0,none⟩))) rfl (by kernel_rfl) (fun _ _ _ h=>h) (.inl ⟨rfl,fun W' hW'=>by simp [go_sem]⟩) hS0.out.1 ?_
           simp only [Act.put,List.setIfInBounds_toArray,List.set_cons_zero,List.set_cons_succ]
           refine anyM_take true 6 (v:=(.pointer (some ⟨BX,1,none⟩))) rfl (by kernel_rfl) (fun _ _ _ h=>h) (.inl ⟨rfl,fun W' hW'=>by simp [go_sem]⟩) hS0.out.1 ?_
           simp only [Act.put,List.setIfInBounds_toArray,List.set_cons_zero,List.set_cons_succ]
           refine anyM_take true 7 (v:=(.int .i64 C)) rfl (by kernel_rfl) (fun _ _ _ h=>h) (.inl ⟨rfl,fun W' hW'=>by have e:=Box.cell hW' 1 rfl;simp [go_sem,e]⟩) hS0.out.1 ?_
           simp only [Act.put,List.setIfInBounds_toArray,List.set_cons_zero,List.set_cons_succ]
           refine anyM_take false 8 (v:=(.pointer (some ⟨B25,9,none⟩))) rfl (by kernel_rfl) (fun _ _ _ h=>h) (.inl ⟨rfl,fun W' hW'=>by simp [go_sem]⟩) hS0.out.2 ?_
           simp only [Act.put,List.setIfInBounds_toArray,List.set_cons_zero,List.set_cons_succ]
           refine anyM_take false 9 (v:=(.int .i64 o.cost)) rfl (by kernel_rfl) (fun _ _ _ h=>h) (.inl ⟨rfl,fun W' hW'=>by have e:=Box.cell hW' 9 rfl;simp [go_sem,e]⟩) hS0.out.2 ?_
           simp only [Act.put,List.setIfInBounds_toArray,List.set_cons_zero,List.set_cons_succ]
           refine anyM_take false 10 (v:=(.int .i64 (C+o.cost))) rfl (by kernel_rfl) (fun _ _ _ h=>h) (.inl ⟨rfl,fun W' hW'=>by simp [go_sem];rw [IntKind.wrap_i64];omega⟩) hS0.out.2 ?_
           simp only [Act.put,List.setIfInBounds_toArray,List.set_cons_zero,List.set_cons_succ]
           refine anyM_one (i:=3) (by kernel_rfl) rfl (fun KK HK=>?_)
           go_wp2_with fail
           refine HK.out _ _ (fun b _ _=>match b with | false=>hS0.out.2.alloc _ | true=>hS0.out.1.alloc _) ?_
           clear HK
           refine anyM_one (i:=4) (by kernel_rfl) rfl (fun KK HK=>?_)
           refine wpList_pushG elem_int rfl (.tmp 96) (.tmp 98) rfl (w0:=V) (base:=BX+1) (HI.out.1.u.trans (by repeat (first|with_reducible (first|exact Up.refl _|apply Up.plus)|apply Up.ext|apply Up.alloc|apply Up.drew|refine Up.setCell ?_ (by simp;try omega) _))) (by have:=HI.out.1.z;omega) (Nat.le_trans (by have:=HI.out.1.x.lt;omega) (show U.heap.size≤_ by simp)) rfl (HI.out.1.o.up (by repeat (first|with_reducible (first|exact Up.refl _|apply Up.plus)|apply Up.ext|apply Up.alloc|apply Up.drew|refine Up.setCell ?_ (by simp;try omega) _))) (by omega) (by decide) (i:Int) rfl (Box.mk (by simp)) ?_
           intro gn cn W' hu' ho' hgr
           have hrow:∀ q,vx.ownBlock=some q→BX<q∧q<B25:=fun q hq=>⟨by have:=(HI.out.1.o.lt q hq).1;omega,hvx q hq⟩
           have hz:=HI.out.1.z
           have hx':Box W' BX #[.int .i64 0,.int .i64 C,vx] 127:=Box.grown (HI.out.1.x.up (by repeat (first|with_reducible (first|exact Up.refl _|apply Up.plus)|apply Up.ext|apply Up.alloc|apply Up.drew|refine Up.setCell ?_ (by simp;try omega) _))) hgr (fun e=>by have:=hrow _ e;omega)
           have hf':Box W' B25 #[.int .i64 o.kind,.int .i64 o.station,.int .i64 o.catalog,.int .i64 o.tick,.int .i64 o.dx,.int .i64 o.dy,.int .i64 o.err,.int .i64 o.far,.int .i64 o.wide,.int .i64 o.cost,.bool o.sure] 50:=Box.grown (HI.out.2.up (by repeat (first|with_reducible (first|exact Up.refl _|apply Up.plus)|apply Up.ext|apply Up.alloc|apply Up.drew|refine Up.setCell ?_ (by simp;try omega) _))) hgr (fun e=>by have:=hrow _ e;omega)
           have hb':=Box.grown (HI.out.1.b.up (by repeat (first|with_reducible (first|exact Up.refl _|apply Up.plus)|apply Up.ext|apply Up.alloc|apply Up.drew|refine Up.setCell ?_ (by simp;try omega) _))) hgr (fun e=>by have:=hrow _ e;omega)
           have hl':Lst TInt (fun b=>b≠BB∧b<BX) W' (.slice va vn vc) (bestF s d t set offers mb g budget f k).ch:=(HI.out.1.l.up (by repeat (first|with_reducible (first|exact Up.refl _|apply Up.plus)|apply Up.ext|apply Up.alloc|apply Up.drew|refine Up.setCell ?_ (by simp;try omega) _))).keeps ((Keeps.refl _ _).turn hgr (fun b hb h=>by have:=hrow b hb;omega))
           have HN:=hide (BsI.next (c':=C+o.cost) hu' hb' hl' hx' ho' hz)
           have x1:=hx'.cell 1 rfl
           have x2:=hx'.cell 2 rfl
           have lx:=hx'.lt
           have fx1:=hx'.frozen 1
           have fx2:=hx'.frozen 2
           have HX:=hide (And.intro hx' hf')
           have hBX25n:B25≠BX:=by omega
           clear hx' hf' hb' hl' hu' ho' hgr hrow hvx HI hS0
           go_wp2_with fail
           refine HK.out _ _ (fun b _ _=>match b with | false=>HX.out.2 | true=>HX.out.1) ?_
           clear HK
           refine anyM_take true 11 (v:=(.pointer (some ⟨BX,2,none⟩))) rfl (by kernel_rfl) (fun _ _ _ h=>h) (.inl ⟨rfl,fun W' hW'=>by simp [go_sem]⟩) HX.out.1 ?_
           simp only [Act.put,List.setIfInBounds_toArray,List.set_cons_zero,List.set_cons_succ]
           refine anyM_one (i:=12) (by kernel_rfl) rfl (fun KK HK=>?_)
           go_wp2_with fail
           refine HK.out _ _ (fun b h _=>match b,h with | false,_=>HX.out.2.other hBX25n _ _ | true,h=>absurd (by decide) h) ?_
           clear HK
           refine anyM_one (i:=13) (by kernel_rfl) rfl (fun KK HK=>?_)
           go_wp2_with fail
           refine HK.out _ _ (fun _ _ h=>h) ?_
           clear HK
           refine anyM_one (i:=14) (by kernel_rfl) rfl (fun KK HK=>?_)
           go_wp2_with fail
           refine HK.out _ _ (fun _ _ h=>h) ?_
           clear HK
           refine anyM_one (i:=15) (by kernel_rfl) rfl (fun KK HK=>?_)
           go_wp2_with fail
           refine HK.out _ _ (fun b h _=>match b,h with | false,h=>absurd (by decide) h | true,h=>absurd (by decide) h) ?_
           clear HK
           refine anyM_done (by kernel_rfl) ?_
           refine forgetW (fun U2=>BsI V U2 BB BX (.slice va vn vc) (bestF s d t set offers mb g budget f k) 0 (C+o.cost) (.slice (some ⟨gn,0,none⟩) ((chL (k:Int) i).length+1) cn) (chL k i++[(i:Int)])) HN.out ?_
           clear HN HX x1 x2 lx fx1 fx2
           intro U2 hU2
           have HI:=hide hU2
           clear hU2
           go_wp2_with fail
           go_roundw
           case rel=>exact ⟨i+1,by omega,by go_num,HDY2,_,hide (by rw [HCO.out,HYES.out];exact HI.out.up (by repeat (first|with_reducible (first|exact Up.refl _|apply Up.plus)|apply Up.ext|apply Up.alloc|apply Up.drew|refine Up.setCell ?_ (by simp;try omega) _)))⟩
           case measure=>simp [intOf];omega
     · have hib:decide ((i:Int)<on)=false:=by simp;omega
       have hin:decide (i<on)=false:=by simp;omega
       obtain rfl:i=on:=by omega
       have x0:=HJ.out.x.cell 0 rfl
       have x1:=HJ.out.x.cell 1 rfl
       have x2:=HJ.out.x.cell 2 rfl
       have lx:=HJ.out.x.lt
       have fx0:=HJ.out.x.frozen 0
       have b0:=HJ.out.b.cell 0 rfl
       have b1:=HJ.out.b.cell 1 rfl
       have b2:=HJ.out.b.cell 2 rfl
       have lb:=HJ.out.b.lt
       have hcb:=costL_bd (fun o ho=>(HOK2.out o ho).2) (chL (k:Int) i)
       have hcl:=chL_le (k:Int) i
       have hlen:=HON.out.1
       have HBD:=hide (bestF_dear (s:=s) (d:=d) (t:=t) (set:=set) (offers:=offers) (m:=mb) (g:=g) (budget:=budget) (f:=f) (k:=k))
       have HBT:=hide (fun h=>bestF_take (s:=s) (d:=d) (t:=t) (set:=set) (offers:=offers) (m:=mb) (g:=g) (budget:=budget) (f:=f) (k:=k) (by rw [← hlen];exact HD2.out) h)
       rw [← hlen] at HBD HBT
       have HCD:=hide (show chD s d t set offers f k=⟨worstT (tabV s d t set offers) (sureO offers) set.length f (chL k offers.length),costL offers (chL k offers.length),chL k offers.length⟩ from rfl)
       rw [← hlen] at HCD
       obtain ⟨C,hC⟩:∃ C,C=costL offers (chL (k:Int) i):=⟨_,rfl⟩
       rw [← hC] at HJ HBD HBT HCD hcb x1
       clear hC hlen
       obtain ⟨xa,xc,hvx⟩:=HJ.out.o.form
       obtain ⟨Q,hQ⟩:∃ Q,Q=chL (k:Int) i:=⟨_,rfl⟩
       have hrange:∀ o∈Q,0≤o∧o<(i:Int):=fun o ho=>mem_chL' (x:=(k:Int)) (by rw [← hQ];exact ho)
       rw [← hQ] at HJ HCD hvx hcl
       clear hQ
       subst hvx
       by_cases hdear:budget<C
       · have hd1:decide (budget<C)=true:=decide_eq_true hdear
         have HB2:=hide (HBD.out hdear)
         clear hdear HBD HBT HCD
         go_wp2_with fail
         go_roundw
         case rel=>exact ⟨k+1,by omega,by go_num,_,hide (by rw [HB2.out];exact HJ.out.out.up (by repeat (first|with_reducible (first|exact Up.refl _|apply Up.plus)|apply Up.ext|apply Up.alloc|apply Up.drew|refine Up.setCell ?_ (by simp;try omega) _)))⟩
         case measure=>simp [intOf];omega
       · have hd1:decide (budget<C)=false:=decide_eq_false hdear
         have HB2:=hide (HBT.out hdear)
         clear hdear HBD HBT
         obtain ⟨L,hL⟩:∃ L:Nat,L=worstT (tabV s d t set offers) (sureO offers) set.length f Q:=⟨_,rfl⟩
         have HW3:=hide (fun (W:World) (hu:Up wr W)=>HWO.out W (HJ.out.u.trans hu) f hf3 ((HJ.out.o.up hu).lies (by omega)) hrange (by omega))
         rw [HON.out.2.1,← hL] at HW3
         rw [← hL] at HCD
         clear hL
         go_wp2_with fail
         go_at_call 48
         refine (HW3.out _ (by repeat (first|with_reducible (first|exact Up.refl _|apply Up.plus)|apply Up.ext|apply Up.alloc|apply Up.drew|refine Up.setCell ?_ (by simp;try omega) _))).mono ?_
         intro q3
         go_wp2_with fail
         go_at_call 56
         refine forgetK (fun U=>BsI V U BB BX (.slice va vn vc) (bestF s d t set offers mb g budget f k) L C (.slice xa Q.length xc) Q) (HJ.out.priced.up (by repeat (first|with_reducible (first|exact Up.refl _|apply Up.plus)|apply Up.ext|apply Up.alloc|apply Up.drew|refine Up.setCell ?_ (by simp;try omega) _))) ?_
         clear HW3 HJ x0 x1 x2 lx fx0 b0 b1 b2 lb
         intro U hU
         have HI:=hide hU
         clear hU
         have x0:=HI.out.x.cell 0 rfl
         have x1:=HI.out.x.cell 1 rfl
         have x2:=HI.out.x.cell 2 rfl
         have lx:=HI.out.x.lt
         have b0:=HI.out.b.cell 0 rfl
         have b1:=HI.out.b.cell 1 rfl
         have b2:=HI.out.b.cell 2 rfl
         have lb:=HI.out.b.lt
         have fb0:=HI.out.b.frozen 0
         have fb1:=HI.out.b.frozen 1
         have fb2:=HI.out.b.frozen 2
         have HFI:=hide (fun W (hu:Up U W)=>chfirst_any (l:=L) (c:=C) (l':=(bestF s d t set offers mb g budget f k).left) (c':=(bestF s d t set offers mb g budget f k).cost) ((HI.out.o.up hu).lies (by omega)) (HI.out.l.up hu))
         have hBk:=HB2.out
         rw [HCD.out] at hBk
         obtain ⟨BF,hBF⟩:∃ BF,BF=firstV ⟨L,C,Q⟩ (bestF s d t set offers mb g budget f k):=⟨_,rfl⟩
         rw [← hBF] at hBk
         have HFJ:=hide (fun W (hu:Up U W)=>show Gives Tryz.prog 56 #[.agg #[.int .i64 L,.int .i64 C,.slice xa Q.length xc],.agg #[.int .i64 (bestF s d t set offers mb g budget f k).left,.int .i64 (bestF s d t set offers mb g budget f k).cost,.slice va vn vc]] W (.bool BF) from by rw [hBF];exact HFI.out W hu)
         have HB3:=hide hBk
         have hQ1:Q.length≤1000:=by omega
         clear hBk hBF HFI HB2 HCD
         rcases BF with _ | _
         · have HB4:=hide (HB3.out.trans (if_neg (by decide)))
           clear HB3
           refine (HFJ.out _ (Up.refl _)).mono ?_
           intro q4
           go_wp2_with fail
           go_roundw
           case rel=>exact ⟨k+1,by omega,by go_num,_,hide (by rw [HB4.out];exact HI.out.out.up (by repeat (first|with_reducible (first|exact Up.refl _|apply Up.plus)|apply Up.ext|apply Up.alloc|apply Up.drew|refine Up.setCell ?_ (by simp;try omega) _)))⟩
           case measure=>simp [intOf];omega
         · have HB4:=hide (HB3.out.trans (if_pos rfl))
           clear HB3
           refine (HFJ.out _ (Up.refl _)).mono ?_
           intro q4
           go_wp2_with fail
           go_roundw
           case rel=>exact ⟨k+1,by omega,by go_num,_,hide (by rw [HB4.out];exact (HI.out.best hQ1).up (by repeat (first|with_reducible (first|exact Up.refl _|apply Up.plus)|apply Up.ext|apply Up.alloc|apply Up.drew|refine Up.setCell ?_ (by simp;try omega) _)))⟩
           case measure=>simp [intOf];omega
  · have hkb:decide ((k:Int)<P)=false:=by simp;omega
    have hkn:decide (k<P)=false:=by simp;omega
    obtain rfl:k=P:=by omega
    obtain ⟨va,vc,hv⟩:∃ va vc,v=.slice va (bestF s d t set offers mb g budget f k).ch.length vc:=let ⟨a,c,h,_⟩:=HS.out.l;⟨a,c,h⟩
    subst hv
    have b0:=HS.out.b.cell 0 rfl
    have b1:=HS.out.b.cell 1 rfl
    have b2:=HS.out.b.cell 2 rfl
    have lb:=HS.out.b.lt
    have hrv:=HRV2.out
    clear HRV2
    subst hrv
    have HE2:=hide (And.intro (HV.out.1.trans HS.out.u) (HS.out.l.mono (K':=fun _=>True) fun _ _ _=>trivial))
    go_wp2_with fail
    ((first | with_reducible refine wp_region_ext2 (by kernel_rfl) (by kernel_rfl) ?_ | refine wp_region_ext (by kernel_rfl) (by kernel_rfl) ?_);(repeat (go_big_quiet_step (fail)));refine wpQuiet_nil ?_;intro _ hw';obtain ⟨_,hw''⟩:=hw';subst hw'')
    go_wp2_with fail
    exact bodyPost_ret (v:=.tuple #[.slice va (bestF s d t set offers mb g budget f k).ch.length vc,.int .i64 (bestF s d t set offers mb g budget f k).left,.int .i64 0]) (by simp [results,Tryz.results24,go_sem]) rfl ⟨_,_,_,rfl,HE2.out.2.up (by repeat (first|with_reducible (first|exact Up.refl _|apply Up.plus)|apply Up.ext|apply Up.alloc|apply Up.drew|refine Up.setCell ?_ (by simp;try omega) _)),HE2.out.1.trans (by repeat (first|with_reducible (first|exact Up.refl _|apply Up.plus)|apply Up.ext|apply Up.alloc|apply Up.drew|refine Up.setCell ?_ (by simp;try omega) _))⟩
end Go.Proofs.YteafglginnonnaaGreat
/- What a choice proves at the worst, in plain Lean: more offers, more failures, surer offers. No conditions. -/
namespace Go.Proofs.YteafglginnonnaaGreat
open Go.RowKit Go.Shelf
theorem mem_chL {x:Int} {k:Nat} {o:Int}:o∈chL x k↔∃ i:Nat,i<k∧bitB x i=true∧o=i:=by
 unfold chL
 simp only [List.mem_map,List.mem_filter,List.mem_range]
 constructor
 · rintro ⟨i,⟨h1,h2⟩,rfl⟩;exact ⟨i,h1,h2,rfl⟩
 · rintro ⟨i,h1,h2,rfl⟩;exact ⟨i,⟨h1,h2⟩,rfl⟩
theorem chL_sorted (x:Int) (k:Nat):(chL x k).Pairwise (·<·):=by
 unfold chL
 refine List.Pairwise.map _ (fun a b h=>by simpa using h) (List.Pairwise.filter _ List.pairwise_lt_range)
theorem chE_chL (x:Int) (k:Nat):chE k (chL x k)=0:=by
 refine chE_ok fun i hi=>?_
 have h1:(chL x k).getD i 0=(chL x k)[i]:=by rw [List.getD_eq_getElem?_getD,List.getElem?_eq_getElem hi];rfl
 obtain ⟨q,hq,_,e⟩:=mem_chL.1 (List.getElem_mem hi)
 unfold chBad
 rw [h1,e]
 simp only [Bool.or_eq_false_iff,Bool.and_eq_false_iff,decide_eq_false_iff_not]
 refine ⟨⟨by omega,by omega⟩,?_⟩
 by_cases h0:0<i
 · refine .inr ?_
   have h2:(chL x k).getD (i - 1) 0=(chL x k)[i - 1]:=by rw [List.getD_eq_getElem?_getD,List.getElem?_eq_getElem (by omega)];rfl
   have h3:=List.pairwise_iff_getElem.1 (chL_sorted x k) (i - 1) i (by omega) hi (by omega)
   rw [h2]
   rw [e] at h3
   omega
 · exact .inl h0
/-! ### an offer made sure -/
def sureAt (l:List OffD) (i:Nat):List OffD:=l.modify i fun o=>{ o with sure:=true }
end Go.Proofs.YteafglginnonnaaGreat
/- The best choice: none is better, a greater budget leaves no more. No conditions. -/
namespace Go.Proofs.YteafglginnonnaaGreat
open Go.RowKit Go.Shelf
theorem cntT_nil (T:Int→Int→VwD) (i:Int) (k:Nat):cntT T [] i k=k:=by
 unfold cntT mixT
 simp
theorem confT_nil (T:Int→Int→VwD) (cn:Nat):∀ k,1≤k→confT T [] cn k=cn
 | 0,h=>absurd h (by decide)
 | 1,_=>by
  rw [confT_succ,cntT_nil]
  unfold confT
  simp
 | k+2,_=>by
  rw [confT_succ,confT_nil T cn (k+1) (by omega),cntT_nil]
  simp
theorem confT_none (T:Int→Int→VwD) (cn:Nat):confT T [] cn cn=cn:=by
 rcases Nat.eq_zero_or_pos cn with h | h
 · subst h;rfl
 · exact confT_nil T cn cn h
theorem worst_none (T:Int→Int→VwD) (su:Int→Bool) (cn f:Nat):worstT T su cn f []=cn:=by
 cases f with
 | zero=>rw [worstT_zero];exact confT_none T cn
 | succ f =>
  rw [wstepT_all,List.length_nil,wstepT_zero]
  exact confT_none T cn
theorem firstV_le {x y:ChD} (h:firstV x y=true):x.left≤y.left:=by
 unfold firstV betterV at h
 simp only [Bool.or_eq_true,Bool.and_eq_true,decide_eq_true_eq] at h
 rcases h with (h | h) | h <;> omega
theorem firstV_ge {x y:ChD} (h:firstV x y=false):y.left≤x.left:=by
 unfold firstV betterV at h
 simp only [Bool.or_eq_false_iff,decide_eq_false_iff_not] at h
 have:=h.1.1
 omega
section
variable {s:SkyD} {d:DriftD} {t:Int} {set:List BoxD} {offers:List OffD} {m g budget:Int} {f:Nat}
theorem bestF_step (k:Nat):(bestF s d t set offers m g budget f (k+1)).left≤(bestF s d t set offers m g budget f k).left:=by
 rw [bestF_succ]
 unfold bstepV
 split
 · split
   · exact Int.le_refl _
   · split
     · rename_i h;exact firstV_le h
     · exact Int.le_refl _
 · exact Int.le_refl _
theorem bestF_anti {j:Nat}:∀ {k:Nat},j≤k→(bestF s d t set offers m g budget f k).left≤(bestF s d t set offers m g budget f j).left
 | 0,h=>by rw [show j=0 by omega];exact Int.le_refl _
 | k+1,h=>by
  rcases Nat.lt_or_ge k j with h1 | h1
  · rw [show j=k+1 by omega];exact Int.le_refl _
  · exact Int.le_trans (bestF_step k) (bestF_anti h1)
theorem bestF_least {i k:Nat} (hi:i<k) (hd:darkL s offers m g (chL i offers.length)=true) (hc:costL offers (chL i offers.length)≤budget):(bestF s d t set offers m g budget f k).left≤(chD s d t set offers f i).left:=by
 refine Int.le_trans (bestF_anti (j:=i+1) (by omega)) ?_
 rw [bestF_succ]
 unfold bstepV
 rw [if_pos hd,if_neg (show ¬ budget<(chD s d t set offers f i).cost from by show ¬ budget<costL offers (chL i offers.length);omega)]
 split
 · exact Int.le_refl _
 · rename_i h;exact firstV_ge (by simpa using h)
theorem chL_nothing (k:Nat):chL 0 k=[]:=by
 unfold chL
 rw [List.filter_eq_nil_iff.2 (fun i _=>by unfold bitB;simp)]
 rfl
theorem bestF_is (hb:0≤budget):∀ k,∃ i:Nat,i<k+1∧bestF s d t set offers m g budget f k=chD s d t set offers f i∧darkL s offers m g (chL i offers.length)=true∧costL offers (chL i offers.length)≤budget
 | 0=>⟨0,by omega,by
  rw [bestF_zero]
  unfold chD
  rw [show ((0:Nat):Int)=0 from rfl,chL_nothing,worst_none,worst_none]
  rfl,by rw [show ((0:Nat):Int)=0 from rfl,chL_nothing];rfl,by rw [show ((0:Nat):Int)=0 from rfl,chL_nothing];exact hb⟩
 | k+1=>by
  obtain ⟨i,hi,h1,h2,h3⟩:=bestF_is hb k
  rw [bestF_succ]
  unfold bstepV
  by_cases hd:darkL s offers m g (chL k offers.length)=true
  · rw [if_pos hd]
    by_cases hc:budget<(chD s d t set offers f k).cost
    · rw [if_pos hc];exact ⟨i,by omega,h1,h2,h3⟩
    · rw [if_neg hc]
      by_cases hf:firstV (chD s d t set offers f k) (bestF s d t set offers m g budget f k)=true
      · rw [if_pos hf];exact ⟨k,by omega,rfl,hd,Int.not_lt.1 hc⟩
      · rw [if_neg hf];exact ⟨i,by omega,h1,h2,h3⟩
  · rw [if_neg hd];exact ⟨i,by omega,h1,h2,h3⟩
theorem bitB_mod (x:Int) {i n:Nat} (h:i<n):bitB (x % (2^n:Nat)) i=bitB x i:=by
 unfold bitB
 have e:x % (2^n:Nat) / 2^i % 2=x / 2^i % 2:=by
  obtain ⟨r,rfl⟩:∃ r,n=i+1+r:=⟨n - i - 1,by omega⟩
  have hp:((2^(i+1+r):Nat):Int)=2^i*(2*2^r):=by
   rw [Int.natCast_pow,Int.pow_add,Int.pow_add]
   show 2^i*2^1*2^r=_
   rw [Int.mul_assoc];rfl
  have h2:(0:Int)<2^i:=Int.pow_pos (by decide)
  rw [hp]
  conv=>rhs;rw [← Int.emod_add_mul_ediv x (2^i*(2*2^r)),Int.mul_assoc,Int.add_mul_ediv_left _ _ (by omega),Int.mul_assoc,Int.add_mul_emod_self_left]
 rw [e]
theorem chL_mod (x:Int) (n:Nat):∃ i:Nat,i<2^n∧chL (i:Int) n=chL x n:=by
 have h0:(0:Int)<((2^n:Nat):Int):=by
  have:=Nat.two_pow_pos n
  omega
 have h1:=Int.emod_nonneg x (show ((2^n:Nat):Int)≠0 by omega)
 have h2:=Int.emod_lt_of_pos x h0
 refine ⟨(x % (2^n:Nat)).toNat,by omega,?_⟩
 rw [Int.toNat_of_nonneg h1]
 unfold chL
 congr 1
 refine List.filter_congr fun i hi=>?_
 exact bitB_mod x (List.mem_range.1 hi)
theorem best_least {x:Int} (hd:darkL s offers m g (chL x offers.length)=true) (hc:costL offers (chL x offers.length)≤budget):(bestF s d t set offers m g budget f (2^offers.length)).left≤worstT (tabV s d t set offers) (sureO offers) set.length f (chL x offers.length):=by
 obtain ⟨i,hi,h⟩:=chL_mod x offers.length
 have:=bestF_least (d:=d) (t:=t) (set:=set) (f:=f) hi (by rw [h];exact hd) (by rw [h];exact hc)
 unfold chD at this
 rw [h] at this
 exact this
theorem best_budget {b':Int} (hb:0≤budget) (h:budget≤b'):(bestF s d t set offers m g b' f (2^offers.length)).left≤(bestF s d t set offers m g budget f (2^offers.length)).left:=by
 obtain ⟨i,hi,h1,h2,h3⟩:=bestF_is (s:=s) (d:=d) (t:=t) (set:=set) (offers:=offers) (m:=m) (g:=g) (f:=f) hb (2^offers.length)
 rw [h1]
 exact best_least (x:=(i:Int)) h2 (Int.le_trans h3 h)
end
end Go.Proofs.YteafglginnonnaaGreat
/- The law of WatchMore, walked: one more offer, one more failure, a surer offer. Conditions: what lies in memory. -/
namespace Go.Proofs.YteafglginnonnaaGreat
open Go.RowKit Go.Shelf
theorem flat_sure:∀ (l:List OffD) (m:Nat),m<l.length→TOff.flat (sureAt l m)=(TOff.flat l).set (m*11+10) (.bool true)
 | [],m,h=>by simp at h
 | x::l,0,_=>by
  unfold sureAt
  rw [List.modify_zero_cons]
  rfl
 | x::l,m+1,h=>by
  have ih:=flat_sure l m (by simpa using h)
  unfold sureAt at ih ⊢
  rw [List.modify_succ_cons]
  have e:∀ (y:OffD) (t:List OffD),TOff.flat (y::t)=TOff.f y++TOff.flat t:=fun y t=>by unfold Rw.flat;simp
  rw [e,e,ih,List.set_append_right _ _ (by rw [TOff.fk];show 11≤_;omega)]
  congr 2
  rw [TOff.fk]
  show m*11+10=(m+1)*11+10 - 11
  omega
theorem Own.sure {e:TypeId} {base:Nat} {w:World} {g n c:Nat} {l:List OffD} (h:Own TOff e base w (.slice (some ⟨g,0,none⟩) n c) l) {m:Nat} (hm:m<l.length):Own TOff e base (w.setCell ⟨g,m*11+10,none⟩ (.bool true)) (.slice (some ⟨g,0,none⟩) n c) (sureAt l m):=by
 obtain ⟨h1,h2⟩:=h
 have hlen:(sureAt l m).length=l.length:=by unfold sureAt;rw [List.length_modify]
 unfold Own
 rw [hlen,flat_sure l m hm]
 refine ⟨by rw [List.length_set];exact h1,?_⟩
 rcases h2 with ⟨h2,h3⟩ | ⟨g',cap,cur,hv,hb,hbx,h4,h5,h6,h7⟩
 · cases h2
 · simp at hv
   obtain ⟨rfl,hv2,rfl⟩:=hv
   have hbx':Box w g cur e:=hbx
   refine .inr ⟨g,c,cur.setIfInBounds (m*11+10) (.bool true),by rw [hv2],hb,hbx'.set (m*11+10) (.bool true),h4,h5,by simpa using h6,?_⟩
   rw [← h7,Array.toList_setIfInBounds,List.take_set]
theorem worst_chosen (HD:DelC) {K:Nat→Prop} {w:World} {a sa ca:Option Addr} {n c sn sc cn cc:Nat} {s:SkyD} {home:Int} (hh:s.home=home) (hL:SkyL K w a n c sa sn sc ca cn cc s) (d:DriftD) {KB:Nat→Prop} {ba:Option Addr} {bn bc:Nat} {set:List BoxD} (hB:Boxes KB w (.slice ba bn bc) set) {KO:Nat→Prop} {oa:Option Addr} {on oc:Nat} {offers:List OffD} (hO:Lst TOff KO w (.slice oa on oc) offers) {KI:Nat→Prop} {ia:Option Addr} {inn ic:Nat} {X:Int} (hI:Lst TInt KI w (.slice ia inn ic) (chL X on)) (hE:watchE s d 0 set offers=0) (g:Nat) (hg:g≤3) {R:Nat} (hR:R=worstT (tabV s d 0 set offers) (sureO offers) set.length g (chL X on)) :
 Gives Tryz.prog 13 #[.agg #[.slice a n c,.int .i64 home,.slice sa sn sc,.slice ca cn cc],.agg #[.int .i64 (d.l.1),.int .i64 (d.l.2),.int .i64 (d.h.1),.int .i64 (d.h.2),.int .i64 (d.g)],.int .i64 0,.slice ba bn bc,.slice oa on oc,.slice ia inn ic,.int .i64 g] w (.tuple #[.int .i64 R,.int .i64 0]):=by
 have h:=wWorst_any HD hL d 0 hB hO hI g
 have hon:=(Offs.at hO).1
 unfold worstV at h
 rw [if_pos hE,if_pos (show withinB (g:Int) 0 3=true by simp [withinB];omega),← hon,if_pos (chE_chL X on),Int.toNat_natCast,← hR,hh] at h
 exact h
end Go.Proofs.YteafglginnonnaaGreat
