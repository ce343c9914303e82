/- Several texts in one. -/
import Derived.Test.YteafglginnonnaaGreatFol
import Derived.Test.YteafglginnonnaaGreatWpe
import Derived.Test.YteafglginnonnaaGreatWst
import Derived.Test.YteafglginnonnaaGreatVO
import Derived.Test.YteafglginnonnaaGreatOwn
import Derived.Test.YteafglginnonnaaGreatSpanB
import Derived.Test.YteafglginnonnaaGreatFRefO
import Derived.Test.YteafglginnonnaaGreatMade
/- A cell that has the truth is left by readings with which the truth agrees. Conditions: a right watch, a small sky. -/
set_option linter.unusedVariables false
set_option linter.unusedSimpArgs false
namespace Go.Proofs.YteafglginnonnaaGreat
open Go.RowKit Go.Shelf
theorem view_lim (k:KndD) (a:Ar4):VLim (viewK k a):=by
 unfold VLim viewK clampS
 dsimp only
 split <;> (dsimp only;omega)
theorem tab_lim {s:SkyD} {d:DriftD} {t:Int} {set:List BoxD} {offers:List OffD} (o k:Int):VLim (tabV s d t set offers o k):=by
 unfold tabV
 split
 · unfold VLim;simp
 · split
   · unfold VLim;simp
   · exact view_lim _ _
theorem view_left {s:SkyD} {o:OffD} {a:Ar4} {q:Int×Int} {r:Int×Int} (ho:offE s o=0) (ha:ABd a) (hq:InA q a) (hr:r.1=0∨r.1=1∨r.1=2) (h:agreesV s o r.1 r.2 q=true):leftB (viewK (kndOf s o) a) r=true:=by
 obtain ⟨may,sure,v1,v2,F,l1,l2,is,e1,e2,e3,e4,e5,e6,e7,e8⟩:=places_facts ho ha hq
 obtain ⟨F',m1,m2,is',g1,g2,g3,g4,g5,g6,g7⟩:=reads_facts ho (hq.bd ha)
 rw [view_eq ho ha] at e1
 have ev:viewK (kndOf s o) a=(may,sure,v1,v2):=(Prod.mk.inj e1).1
 obtain rfl:F=F':=e2.symm.trans g1
 rw [e3] at g2
 cases g2
 rw [ev]
 unfold leftB
 obtain ⟨r1,r2⟩:=r
 dsimp only at hr h ⊢
 rcases hr with rfl | rfl | rfl
 · rfl
 · rw [if_pos rfl]
   rw [g6] at h
   cases sure
   · rfl
   · rw [e5 rfl] at h;cases h
 · rw [if_neg (by decide),if_pos rfl]
   rw [g5] at h
   simp only [Bool.and_eq_true,withinB,decide_eq_true_eq] at h ⊢
   obtain ⟨h1,h2,h3⟩:=h
   have:=e8 h1
   exact ⟨e6 (e7 h1),by omega,by omega⟩
theorem propV_of0 {bs:List Bod} {home:Int} {d:DriftD} {t n:Int} {l r:List BoxD} (h:propagateV bs home d t n l=(r,0)):propV bs d n.toNat t l=some r:=by
 unfold propagateV at h
 split at h
 · cases hp:propV bs d n.toNat t l with
   | none=>rw [hp] at h;unfold optL at h;cases h
   | some m=>rw [hp] at h;unfold optL at h;cases h;rfl
 · rename_i h0
   exact absurd (Prod.mk.inj h).2 h0
theorem offer_ok0 {s:SkyD} {d:DriftD} {t:Int} {set:List BoxD} {offers:List OffD} (h:watchE s d t set offers=0):∀ o∈offers,offE s o=0:=fun o ho=>by
 have h1:=(watchE_zero h).2.2.2 o ho
 unfold offW at h1
 by_cases h3:offE s o=0
 · exact h3
 · exfalso;simp [h3] at h1
theorem cell_has {s:SkyD} (hs:SmallSky s) {d:DriftD} {set:List BoxD} {offers:List OffD} (hW:watchE s d 0 set offers=0) {l:List StD} (hT:truthV s.bodies s.home d 0 l = -1) {o:OffD} (ho:o∈offers) (hl:o.tick<l.length) {k:Nat} {b:BoxD} (hk:set[k]?=some b) (hb:BOk b) (hh:holdsB b (l.getD 0 (0,0,0,0))=true) :
 0≤o.tick∧∃ b',(cellsO s d 0 set o)[k]?=some b'∧BOk b'∧holdsB b' (l.getD o.tick.toNat (0,0,0,0))=true:=by
 have h1:=(watchE_zero hW).2.2.2 o ho
 have h2:offE s o=0:=by
  unfold offW at h1
  by_cases h3:offE s o=0
  · exact h3
  · exfalso;simp [h3] at h1
 unfold offW at h1
 rw [if_pos h2] at h1
 have h3:withinB o.tick 0 (0+400)=true∧(propagateV s.bodies s.home d 0 (o.tick - 0) set).2=0:=by
  split at h1
  · rename_i h;exact ⟨h,h1⟩
  · cases h1
 have h4:0≤o.tick∧o.tick≤400:=by simpa [withinB] using h3.1
 refine ⟨h4.1,?_⟩
 have h5:propV s.bodies d (o.tick - 0).toNat 0 set=some (cellsO s d 0 set o):=propV_of0 (home:=s.home) (show _=((propagateV s.bodies s.home d 0 (o.tick - 0) set).1,0) from Prod.ext rfl h3.2)
 obtain ⟨w1,w2,w3,w4,w5⟩:=truth_facts hT
 have e:(o.tick - 0).toNat=o.tick.toNat:=by rw [Int.sub_zero]
 rw [e] at h5
 exact prop_in hs w1 o.tick.toNat 0 set _ (fun j=>l.getD j (0,0,0,0)) k b h5 hk hb hh (by omega) (fun j hj=>⟨w4 j (by omega),by have:=w5 j (by omega);exact this⟩)
theorem cell_left {s:SkyD} (hs:SmallSky s) {d:DriftD} {set:List BoxD} {offers:List OffD} (hW:watchE s d 0 set offers=0) {l:List StD} (hT:truthV s.bodies s.home d 0 l = -1) (htick:∀ o∈offers,o.tick<l.length) {ch:List Int} (hch:∀ o∈ch,0≤o∧o<offers.length) {rs:List (Int×Int)} (hlen:rs.length=ch.length)
 (hag:∀ (j:Nat) (o:OffD),j<ch.length→offers[(ch.getD j 0).toNat]?=some o→((rs.getD j (0,0)).1=0∨(rs.getD j (0,0)).1=1∨(rs.getD j (0,0)).1=2)∧agreesV s o (rs.getD j (0,0)).1 (rs.getD j (0,0)).2 ((l.getD o.tick.toNat (0,0,0,0)).1,(l.getD o.tick.toNat (0,0,0,0)).2.1)=true)
 {k:Nat} {b:BoxD} (hk:set[k]?=some b) (hb:BOk b) (hh:holdsB b (l.getD 0 (0,0,0,0))=true):(k:Int)∈leftL (tabV s d 0 set offers) ch rs set.length:=by
 unfold leftL
 rw [List.mem_map]
 refine ⟨k,List.mem_filter.2 ⟨List.mem_range.2 (List.getElem?_eq_some_iff.1 hk).1,?_⟩,rfl⟩
 unfold keepT
 rw [List.all_eq_true]
 intro j hj
 have hj:=List.mem_range.1 hj
 have hm:ch.getD j 0∈ch:=by rw [List.getD,List.getElem?_eq_getElem hj];exact List.getElem_mem hj
 have hc:=hch _ hm
 have hlt:(ch.getD j 0).toNat<offers.length:=by omega
 have ho:=List.getElem?_eq_getElem hlt
 obtain ⟨o,hoe⟩:∃ o,offers[(ch.getD j 0).toNat]?=some o:=⟨_,ho⟩
 have hom:=List.mem_of_getElem? hoe
 obtain ⟨ht0,b',hb',hbk,hhb⟩:=cell_has hs hW hT hom (htick o hom) hk hb hh
 have hg:=hag j o hj hoe
 have e:tabV s d 0 set offers (ch.getD j 0) k=viewK (kndOf s o) (cellA b'):=by
  have:=tabV_at (s:=s) (d:=d) (t:=0) (set:=set) hoe hb'
  rw [Int.toNat_of_nonneg hc.1] at this
  exact this
 rw [e]
 refine view_left (offer_ok0 hW o hom) ?_ ?_ hg.1 hg.2
 · exact ⟨⟨hbk.x.1,hbk.x.2.1,hbk.x.2.2⟩,hbk.y.1,hbk.y.2.1,hbk.y.2.2⟩
 · unfold holdsB at hhb
   simp only [Bool.and_eq_true,withinB,decide_eq_true_eq] at hhb
   exact ⟨⟨hhb.1.1,hhb.1.2⟩,hhb.2.1.1,hhb.2.1.2⟩
theorem over_ord {bs:List Bod} {home:Int} {d:DriftD} {t x y:Int}:OrdA 12000000 (overV bs home d.l d.h d.g t (x,x,y,y)).1:=by
 unfold overV
 by_cases he:askedE bs home d.l d.h d.g t (x,x,y,y)=0
 · rw [if_pos he,over_ref he]
   unfold askedE at he
   by_cases h1:worldE bs home=0
   · rw [if_pos h1] at he
     by_cases h2:driftE d.l d.h d.g=0
     · rw [if_pos h2] at he
       refine overR_ord (home:=home) (by unfold worldDE;rw [if_pos h1];exact h2) ?_
       split at he
       · split at he
         · split at he
           · rename_i h
             simp only [limB,decide_eq_true_eq] at h
             unfold OrdA Ord arX arY
             simp only
             omega
           · cases he
         · rename_i h;exact absurd he h
       · cases he
     · rw [if_neg h2] at he;exact absurd he h2
   · rw [if_neg h1] at he;exact absurd he h1
 · rw [if_neg he]
   show OrdA 12000000 (0,0,0,0)
   unfold OrdA Ord arX arY
   decide
theorem forgetX {X:World→Prop} {w:World} (S:World→Prop) (hS:S w) (h:∀ w',S w'→X w'):X w:=h w hS
def RSucc (v:Value):Prop:=∃ x y u w:Int,v=.agg #[.int .i64 (x),.int .i64 (y),.int .i64 (u),.int .i64 w]
set_option maxRecDepth 100000 in
set_option maxHeartbeats 8000000 in
theorem succ_any {w:World} {sl:Value} (hN:Nums w sl) {B:Nat} (hB:w.heap.size≤B) {K:Nat→Prop} {a:Option Addr} {n c:Nat} {bs:List Bod} {home:Int} (hh:I64 home) (d:DriftD) (k x y u v:Int) {t:Int} {W:World} (hu:Up w W) (hb:Box W B #[sl,.int .i64 t] 98) (hl:Bods K W (.slice a n c) bs) (t0:0≤t) (t1:t+8≤100000) :
 Calls Tryz.prog 64 #[.pointer (some ⟨B,0,none⟩),.agg #[.slice a n c,.int .i64 home],.agg #[.int .i64 (d.l.1),.int .i64 (d.l.2),.int .i64 (d.h.1),.int .i64 (d.h.2),.int .i64 (d.g)],.int .i64 k,.agg #[.int .i64 (x),.int .i64 (y),.int .i64 (u),.int .i64 (v)]] W (RPost W B t 8 RSucc):=by
 have K4:=hide (fun n V (hV:RingAt W B n V) (hn:n+8≤100000)=>(func4_r hN hB).at hu hb hB hV hn)
 have HR:=hide (RingAt.start (n:=t) hb t0 (by omega))
 have HP:=hide (fun U (hU:Up W U)=>g_Pull (hl.keeps (hU.keeps K)) hh d.l d.h d.g k x y)
 have hO:=over_ord (bs:=bs) (home:=home) (d:=d) (t:=k) (x:=x) (y:=y)
 have lB:=hb.lt
 obtain ⟨R,hR⟩:∃ R,R=overV bs home d.l d.h d.g k (x,x,y,y):=⟨_,rfl⟩
 rw [← hR] at HP hO
 obtain ⟨⟨r0,r1,r2,r3⟩,e⟩:=R
 obtain ⟨⟨h0,h1,h2⟩,h3,h4,h5⟩:=hO
 simp only [arX,arY] at h0 h1 h2 h3 h4 h5
 dsimp only at HP
 have I1:=hide (fun n h=>inspan_any r0 r1 n (by omega) (by omega) (by omega) h)
 have I2:=hide (fun n h=>inspan_any r2 r3 n (by omega) (by omega) (by omega) h)
 clear hN hu hb hl hR hB h0 h1 h2 h3 h4 h5
 obtain ⟨bx,hbx⟩:∃ b,b=W.heap.size+1+1:=⟨_,rfl⟩
 obtain ⟨z,hz⟩:∃ b,b=W.heap.size+1+1+1:=⟨_,rfl⟩
 go_enter Tryz.func64,Tryz.ntmps64
 go_wp2_with fail
 go_at_call 113
 rw [← hz,← hbx]
 refine forgetC (fun U=>Up W U∧RingAt W B t U∧Box U bx #[.int .i64 (x),.int .i64 (y),.int .i64 (u),.int .i64 (v)] 37∧Box U z #[.int .i64 (0),.int .i64 (0),.int .i64 (0),.int .i64 (0)] 37) ⟨Up.go,HR.out.ofUp Up.go,by rw [hbx];exact Box.go,by rw [hz];exact Box.go⟩ ?_
 have Nz:z≠B:=by omega
 have Nb:bx≠B:=by omega
 have Nbz:bx≠z:=by omega
 have Wz:W.heap.size≤z:=by omega
 have Bz:B<z:=by omega
 clear hz hbx HR
 rintro V0 ⟨hU0,hR0,hb0,hz0⟩
 refine (HP.out _ hU0).mono ?_
 clear HP hU0
 intro p0
 have H0:=hide (And.intro hR0 (And.intro hb0 hz0))
 have lz:=hz0.lt
 clear hR0 hb0 hz0
 go_wp2_with fail
 go_at_call 77
 obtain ⟨ar,har⟩:∃ b,b=V0.heap.size+p0.os.size:=⟨_,rfl⟩
 try rw [← har]
 refine forgetC (fun U=>RingAt W B t U∧Box U bx #[.int .i64 (x),.int .i64 (y),.int .i64 (u),.int .i64 (v)] 37∧Box U z #[.int .i64 (0),.int .i64 (0),.int .i64 (0),.int .i64 (0)] 37∧Box U ar #[.int .i64 (r0),.int .i64 (r1),.int .i64 (r2),.int .i64 (r3)] 61) ⟨H0.out.1.ofUp Up.go,H0.out.2.1.up Up.go,H0.out.2.2.up Up.go,by rw [har];exact Box.mk (ext_size _ _)⟩ ?_
 have Na:ar≠B:=by omega
 have Naz:ar≠z:=by omega
 clear H0 har lz
 rintro V1 ⟨hR1,hb1,hz1,ha1⟩
 refine (K4.out t _ hR1 (by omega)).mono ?_
 rintro _ V2 ⟨_,rfl,⟨f0,f1,f2,f3,hf0,hf1,hf2,hf3,rfl⟩,hR,hg⟩
 have H2:=hide (And.intro hR (And.intro (hb1.grown hg (by simp;omega)) (And.intro (hz1.grown hg (by simp;omega)) (ha1.grown hg (by simp;omega)))))
 clear hR1 hb1 hz1 ha1 hR hg K4
 obtain ⟨X,X0,X1,KX⟩:=I1.out f0 (by omega)
 obtain ⟨Y,Y0,Y1,KY⟩:=I2.out f1 (by omega)
 have KX:=hide KX
 have KY:=hide KY
 clear I1 I2 X0 X1 Y0 Y1 hf0 hf1 hf2 hf3
 go_wp2_with fail
 obtain ⟨q,hq⟩:∃ q,q=V2.heap.size:=⟨_,rfl⟩
 rw [← hq]
 refine forgetW (fun U=>RingAt W B (t+8) U∧Box U bx #[.int .i64 (x),.int .i64 (y),.int .i64 (u),.int .i64 (v)] 37∧Box U z #[.int .i64 (0),.int .i64 (0),.int .i64 (0),.int .i64 (0)] 37∧Box U ar #[.int .i64 (r0),.int .i64 (r1),.int .i64 (r2),.int .i64 (r3)] 61∧Box U q #[.int .i64 (f0),.int .i64 (f1),.int .i64 (f2),.int .i64 (f3)] 147) ⟨H2.out.1.alloc _,H2.out.2.1.alloc _,H2.out.2.2.1.alloc _,H2.out.2.2.2.alloc _,by rw [hq];exact Box.go⟩ ?_
 clear H2 hq
 intro V3 h3
 have H3:=hide h3
 clear h3
 obtain ⟨bb0,bb1,bb2,bb3⟩:=(H3.out.2.1).c4
 have lbb:=(H3.out.2.1).lt
 obtain ⟨zz0,zz1,zz2,zz3⟩:=(H3.out.2.2.1).c4
 have lzz:=(H3.out.2.2.1).lt
 obtain ⟨fz0,fz1,fz2,fz3⟩:=(H3.out.2.2.1).f4
 obtain ⟨aa0,aa1,aa2,aa3⟩:=(H3.out.2.2.2.1).c4
 have laa:=(H3.out.2.2.2.1).lt
 obtain ⟨qq0,qq1,qq2,qq3⟩:=(H3.out.2.2.2.2).c4
 have lqq:=(H3.out.2.2.2.2).lt
 ((first | with_reducible refine wp_region_ext2 (by kernel_rfl) (by kernel_rfl) ?_ | refine wp_region_ext (by kernel_rfl) (by kernel_rfl) ?_);(repeat (go_big_quiet_step ((first | (go_at_call 71;with_reducible exact Gives.inRegion (KX.out _)) | (go_at_call 71;with_reducible exact Gives.inRegion (KY.out _))))));refine wpQuiet_nil ?_;intro _ hw';obtain ⟨_,hw''⟩:=hw';subst hw'')
 go_wp2_with fail
 obtain ⟨u1,hu1⟩:∃ q,q=wrap64 (u+X):=⟨_,rfl⟩
 obtain ⟨v1,hv1⟩:∃ q,q=wrap64 (v+Y):=⟨_,rfl⟩
 rw [← hu1,← hv1]
 obtain ⟨x1,hx1⟩:∃ q,q=wrap64 (x+u1):=⟨_,rfl⟩
 obtain ⟨y1,hy1⟩:∃ q,q=wrap64 (y+v1):=⟨_,rfl⟩
 rw [← hx1,← hy1]
 refine forgetX (X:=bodyPost _ _ _ _ _) (fun WF=>RingAt W B (t+8) WF∧Box WF z #[.int .i64 (x1),.int .i64 (y1),.int .i64 (u1),.int .i64 (v1)] 37) ⟨((((H3.out.1.set Wz 0 _).set Wz 1 _).set Wz 2 _).set Wz 3 _).ofUp Up.go,((((H3.out.2.2.1.set 0 (.int .i64 x1)).set 1 (.int .i64 y1)).set 2 (.int .i64 u1)).set 3 (.int .i64 v1)).up Up.go⟩ ?_
 clear H3 bb0 bb1 bb2 bb3 lbb zz0 zz1 zz2 zz3 lzz fz0 fz1 fz2 fz3 aa0 aa1 aa2 aa3 laa qq0 qq1 qq2 qq3 lqq hu1 hv1 hx1 hy1
 rintro WF ⟨hR,hz⟩
 obtain ⟨z0,z1,z2,z3⟩:=hz.c4
 exact bodyPost_ret (v:=.agg #[.int .i64 (x1),.int .i64 (y1),.int .i64 (u1),.int .i64 (v1)]) (by simp [results,Tryz.results64,go_sem,z0,z1,z2,z3]) rfl (ring_at_out hR (by omega) ⟨x1,y1,u1,v1,rfl⟩)
end Go.Proofs.YteafglginnonnaaGreat
