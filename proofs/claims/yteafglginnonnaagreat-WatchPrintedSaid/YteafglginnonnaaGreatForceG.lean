/- Several texts in one. -/
import Derived.Test.YteafglginnonnaaGreatForceE
import Derived.Test.YteafglginnonnaaGreatTree
/- Package force: light, heat, sums of areas; the pull of one body, light and heat of a question. Conditions: what lies in memory. -/
set_option linter.unusedVariables false
set_option linter.unusedSimpArgs false
namespace Go.Proofs.YteafglginnonnaaGreat
set_option maxHeartbeats 2000000
set_option maxRecDepth 100000
open Go.RowKit Go.Shelf
theorem mdE_bd (p c:Int):(-1152921504606846976≤(mdE p c).1∧(mdE p c).1≤1152921504606846976) ∧ -1152921504606846976≤(mdE p c).2.1∧(mdE p c).2.1≤1152921504606846976:=by
 unfold mdE
 split
 · rename_i h;exact ⟨⟨h.1,h.2.1⟩,h.2.2⟩
 · simp
theorem comb_bd {op:OpE} (h:∀ x y,(-1152921504606846976≤(op x y).1∧(op x y).1≤1152921504606846976) ∧ -1152921504606846976≤(op x y).2.1∧(op x y).2.1≤1152921504606846976) (a b c d:Int) :
 (-1152921504606846976≤(combE op a b c d).1∧(combE op a b c d).1≤1152921504606846976) ∧ -1152921504606846976≤(combE op a b c d).2.1∧(combE op a b c d).2.1≤1152921504606846976:=by
 have h1:=h a c
 have h2:=h a d
 have h3:=h b c
 have h4:=h b d
 unfold combE four
 split
 · split
   · simp only [acc,List.foldl_cons,List.foldl_nil];omega
   · simp
 · simp
theorem quotP_bd (a b:Sp):(-1152921504606846976≤(quotP a b).1∧(quotP a b).1≤1152921504606846976) ∧ -1152921504606846976≤(quotP a b).2∧(quotP a b).2≤1152921504606846976:=by
 unfold quotP quotS
 split
 · split
   · simp
   · exact comb_bd (fun x y=>mdE_bd x y) _ _ _ _
 · simp
theorem flight_any (l h:Sp) (g:Int) (p:Ar) (w:World):Gives Tryz.prog 191 #[.agg #[.int .i64 l.1,.int .i64 l.2,.int .i64 h.1,.int .i64 h.2,.int .i64 g],.agg #[.int .i64 p.1,.int .i64 p.2.1,.int .i64 p.2.2.1,.int .i64 p.2.2.2]] w (.agg #[.int .i64 (lightP l p).1,.int .i64 (lightP l p).2.1,.int .i64 (lightP l p).2.2.1,.int .i64 (lightP l p).2.2.2]):=by
 have b1:=quotP_bd (mulP l (arX p)) (1000,1000)
 have b2:=quotP_bd (mulP l (arY p)) (1000,1000)
 have K1:=hide (fun W=>fpart4 l.1 l.2 p.1 p.2.1 W)
 have K2:=hide (fun W=>fpart4 l.1 l.2 p.2.2.1 p.2.2.2 W)
 unfold lightP arX arY at *
 have e1:partP (l.1,l.2) (p.1,p.2.1)=partP l (p.1,p.2.1):=rfl
 have e2:partP (l.1,l.2) (p.2.2.1,p.2.2.2)=partP l (p.2.2.1,p.2.2.2):=rfl
 rw [e1] at K1
 rw [e2] at K2
 rw [show quotP (mulP l (p.1,p.2.1)) (1000,1000)=partP l (p.1,p.2.1) from rfl] at b1
 rw [show quotP (mulP l (p.2.2.1,p.2.2.2)) (1000,1000)=partP l (p.2.2.1,p.2.2.2) from rfl] at b2
 generalize partP l (p.1,p.2.1)=x at *
 generalize partP l (p.2.2.1,p.2.2.2)=y at *
 obtain ⟨p1,p2,p3,p4⟩:=p
 obtain ⟨x1,x2⟩:=x
 obtain ⟨y1,y2⟩:=y
 obtain ⟨l1,l2⟩:=l
 obtain ⟨h1,h2⟩:=h
 dsimp only at K1 K2 b1 b2
 obtain ⟨⟨u1,u2⟩,u3,u4⟩:=b1
 obtain ⟨⟨v1,v2⟩,v3,v4⟩:=b2
 (unfold Gives;go_enter Tryz.func191,Tryz.ntmps191)
 go_wp2
 ((first | with_reducible refine wp_region_ext_tail2 1 (by kernel_rfl) (by kernel_rfl) ?_ | refine wp_region_ext_tail 1 (by kernel_rfl) (by kernel_rfl) ?_);simp only [List.length_cons,List.length_nil,Nat.reduceAdd,Nat.reduceSub,List.take_succ_cons,List.take_zero,List.drop_succ_cons,List.drop_zero];(repeat (go_big_quiet_step ((first | (go_at_call 218;with_reducible exact Gives.inRegion (K1.out _)) | (go_at_call 218;with_reducible exact Gives.inRegion (K2.out _)) | (go_at_call 217;with_reducible exact Gives.inRegion (fminus_any _ _ (by omega) (by omega) (by omega) (by omega) _))))));refine wpQuiet_nil ?_;intro _ hw';obtain ⟨_,hw''⟩:=hw';subst hw'')
 go_wp2
 (refine forgetW (fun WF=>Up w WF∧Box WF (w.heap.size+1+1) #[.int .i64 ((-x2,-x1,-y2,-y1):Ar).1,.int .i64 ((-x2,-x1,-y2,-y1):Ar).2.1,.int .i64 ((-x2,-x1,-y2,-y1):Ar).2.2.1,.int .i64 ((-x2,-x1,-y2,-y1):Ar).2.2.2] 61) ⟨Up.go,Box.go⟩ ?_;rintro WF ⟨huF,hbF⟩;have zF0:=hbF.cell 0 rfl;have zF1:=hbF.cell 1 rfl;have zF2:=hbF.cell 2 rfl;have zF3:=hbF.cell 3 rfl;(refine bodyPost_give huF rfl ⟨_,(by simp [results,Tryz.results191,go_sem,zF0,zF1,zF2,zF3];rfl),?_⟩);rfl)
theorem fheat_any (l h:Sp) (g:Int) (p:Ar) (w:World):Gives Tryz.prog 192 #[.agg #[.int .i64 l.1,.int .i64 l.2,.int .i64 h.1,.int .i64 h.2,.int .i64 g],.agg #[.int .i64 p.1,.int .i64 p.2.1,.int .i64 p.2.2.1,.int .i64 p.2.2.2]] w (.agg #[.int .i64 (heatP h p).1,.int .i64 (heatP h p).2.1,.int .i64 (heatP h p).2.2.1,.int .i64 (heatP h p).2.2.2]):=by
 have b1:=quotP_bd (mulP h (arX p)) (1000,1000)
 have b2:=quotP_bd (mulP h (arY p)) (1000,1000)
 have K1:=hide (fun W=>fpart4 h.1 h.2 p.1 p.2.1 W)
 have K2:=hide (fun W=>fpart4 h.1 h.2 p.2.2.1 p.2.2.2 W)
 unfold heatP arX arY at *
 have e1:partP (h.1,h.2) (p.1,p.2.1)=partP h (p.1,p.2.1):=rfl
 have e2:partP (h.1,h.2) (p.2.2.1,p.2.2.2)=partP h (p.2.2.1,p.2.2.2):=rfl
 rw [e1] at K1
 rw [e2] at K2
 rw [show quotP (mulP h (p.1,p.2.1)) (1000,1000)=partP h (p.1,p.2.1) from rfl] at b1
 rw [show quotP (mulP h (p.2.2.1,p.2.2.2)) (1000,1000)=partP h (p.2.2.1,p.2.2.2) from rfl] at b2
 generalize partP h (p.1,p.2.1)=x at *
 generalize partP h (p.2.2.1,p.2.2.2)=y at *
 obtain ⟨p1,p2,p3,p4⟩:=p
 obtain ⟨x1,x2⟩:=x
 obtain ⟨y1,y2⟩:=y
 obtain ⟨l1,l2⟩:=l
 obtain ⟨h1,h2⟩:=h
 dsimp only at K1 K2 b1 b2
 obtain ⟨⟨u1,u2⟩,u3,u4⟩:=b1
 obtain ⟨⟨v1,v2⟩,v3,v4⟩:=b2
 (unfold Gives;go_enter Tryz.func192,Tryz.ntmps192)
 go_wp2
 ((first | with_reducible refine wp_region_ext_tail2 1 (by kernel_rfl) (by kernel_rfl) ?_ | refine wp_region_ext_tail 1 (by kernel_rfl) (by kernel_rfl) ?_);simp only [List.length_cons,List.length_nil,Nat.reduceAdd,Nat.reduceSub,List.take_succ_cons,List.take_zero,List.drop_succ_cons,List.drop_zero];(repeat (go_big_quiet_step ((first | (go_at_call 218;with_reducible exact Gives.inRegion (K1.out _)) | (go_at_call 218;with_reducible exact Gives.inRegion (K2.out _)) | (go_at_call 217;with_reducible exact Gives.inRegion (fminus_any _ _ (by omega) (by omega) (by omega) (by omega) _))))));refine wpQuiet_nil ?_;intro _ hw';obtain ⟨_,hw''⟩:=hw';subst hw'')
 go_wp2
 (refine forgetW (fun WF=>Up w WF∧Box WF (w.heap.size+1+1) #[.int .i64 ((-y2,-y1,x1,x2):Ar).1,.int .i64 ((-y2,-y1,x1,x2):Ar).2.1,.int .i64 ((-y2,-y1,x1,x2):Ar).2.2.1,.int .i64 ((-y2,-y1,x1,x2):Ar).2.2.2] 61) ⟨Up.go,Box.go⟩ ?_;rintro WF ⟨huF,hbF⟩;have zF0:=hbF.cell 0 rfl;have zF1:=hbF.cell 1 rfl;have zF2:=hbF.cell 2 rfl;have zF3:=hbF.cell 3 rfl;(refine bodyPost_give huF rfl ⟨_,(by simp [results,Tryz.results192,go_sem,zF0,zF1,zF2,zF3];rfl),?_⟩);rfl)
def RAr (_:World) (p:Ar) (vs:List Value):Prop:=vs=[.int .i64 p.1,.int .i64 p.2.1,.int .i64 p.2.2.1,.int .i64 p.2.2.2]
abbrev Ars:=Lies (fun _=>True) 4 RAr
theorem Ars.keeps {w w':World} {v:Value} {l:List Ar} (h:Ars w v l) (hu:Up w w'):Ars w' v l:=Lies.keeps h (hu.keeps _) fun _ _ h=>h
theorem Ars.at {w:World} {a:Option Addr} {n c:Nat} {l:List Ar} (h:Ars w (.slice a n c) l):n=l.length∧n≤9223372036854775807 ∧
 ∀ i,i<n→∃ b o p,a=some ⟨b,o,none⟩∧b<w.heap.size∧l[i]?=some p∧w.cell? ⟨b,o+i*4,none⟩=some (.int .i64 p.1)∧w.cell? ⟨b,o+i*4+1,none⟩=some (.int .i64 p.2.1)∧w.cell? ⟨b,o+i*4+2,none⟩=some (.int .i64 p.2.2.1)∧w.cell? ⟨b,o+i*4+3,none⟩=some (.int .i64 p.2.2.2):=by
 obtain ⟨a',c',h1,h2,h3⟩:=h
 simp at h1
 obtain ⟨rfl,rfl,rfl⟩:=h1
 refine ⟨rfl,h2,fun i hi=>?_⟩
 obtain ⟨b,o,rfl,hK,hb,hc⟩:=h3 (by intro e;subst e;simp at hi)
 obtain ⟨vs,rfl,_,hx⟩:=hc i l[i] (List.getElem?_eq_getElem hi)
 exact ⟨b,o,l[i],rfl,hb,List.getElem?_eq_getElem hi,hx 0 _ rfl,hx 1 _ rfl,hx 2 _ rfl,hx 3 _ rfl⟩
theorem Ars.of {w:World} {B n:Nat} {T:TypeId} {C:Array Value} {l:List Ar} (hb:Box w B C T) (hn:n=l.length) (hm:l.length≤1000)
 (hC:∀ (i:Nat) (p:Ar),l[i]?=some p→C[i*4]?=some (.int .i64 p.1)∧C[i*4+1]?=some (.int .i64 p.2.1)∧C[i*4+2]?=some (.int .i64 p.2.2.1)∧C[i*4+3]?=some (.int .i64 p.2.2.2)) (c:Nat):Ars w (.slice (some ⟨B,0,none⟩) n c) l:=by
 subst hn
 refine ⟨_,_,rfl,by omega,fun _=>⟨B,0,rfl,trivial,hb.lt,fun i x hx=>⟨_,rfl,rfl,fun j u hu=>?_⟩⟩⟩
 obtain ⟨h0,h1,h2,h3⟩:=hC i x hx
 match j,hu with
 | 0,hu=>cases hu;exact hb.cell _ (by simpa using h0)
 | 1,hu=>cases hu;exact hb.cell _ (by simpa using h1)
 | 2,hu=>cases hu;exact hb.cell _ (by simpa using h2)
 | 3,hu=>cases hu;exact hb.cell _ (by simpa using h3)
theorem addP_check (a b:Sp):checkE (addP a b).1 (addP a b).2=0:=by
 unfold addP addS
 split
 · rename_i h
   obtain ⟨h1,h2⟩:=valid_zero h
   obtain ⟨a0,a1,a2⟩:=check_zero h1
   obtain ⟨b0,b1,b2⟩:=check_zero h2
   exact ends_check _ _ (by omega)
 · show checkE 0 0=0;decide
theorem fadd4 {a b c d:Int} {w:World} {B:Nat} {T:TypeId} (hb:Box w B #[.int .i64 a,.int .i64 b,.int .i64 c,.int .i64 d] T) (h:checkE a b=0) :
 Gives Tryz.prog 216 #[.slice (some ⟨B,0,none⟩) 2 2] w (.agg #[.int .i64 (addP (a,b) (c,d)).1,.int .i64 (addP (a,b) (c,d)).2]):=fadd2 (a,b) (c,d) h hb
theorem fsum_any {a:Option Addr} {n c:Nat} {l:List Ar} (w:World) (hl:Ars w (.slice a n c) l) :
 Gives Tryz.prog 190 #[.slice a n c] w (.agg #[.int .i64 (sum0 l).1,.int .i64 (sum0 l).2.1,.int .i64 (sum0 l).2.2.1,.int .i64 (sum0 l).2.2.2]):=by
 have hn:=(Ars.at hl).1
 have hm:=(Ars.at hl).2.1
 have HL:=hide (And.intro hl hn)
 clear hl hn
 (unfold Gives;go_enter Tryz.func190,Tryz.ntmps190)
 go_wp2
 go_loopw [8] (fun s8 wr=>∃ (k:Nat) (o:Ar),k≤n∧s8=.int .i64 k∧Up w wr∧Hid ((l.take k).foldl sumP (0,0,0,0)=o∧checkE o.1 o.2.1=0∧checkE o.2.2.1 o.2.2.2=0)∧Box wr w.heap.size #[.int .i64 (0),.int .i64 (0),.int .i64 (0),.int .i64 (0)] 61∧Box wr (w.heap.size+1) #[.int .i64 (o.1),.int .i64 (o.2.1),.int .i64 (o.2.2.1),.int .i64 (o.2.2.2)] 61) (fun s8 _=>n - (intOf s8).toNat)
 case atStart=>exact ⟨0,(0,0,0,0),by omega,rfl,Up.go,hide ⟨rfl,by decide,by decide⟩,Box.alloc (Box.mk rfl) _,Box.mk (by simp)⟩
 case round =>
  obtain ⟨k,o,hk,rfl,hu,ho,hb1,hb2⟩:=hrel
  obtain ⟨z0,z1,z2,z3⟩:=hb1.c4
  obtain ⟨y0,y1,y2,y3⟩:=hb2.c4
  obtain ⟨fz0,fz1,fz2,fz3⟩:=hb1.f4
  obtain ⟨fy0,fy1,fy2,fy3⟩:=hb2.f4
  have l1:=hb1.lt
  have l2:=hb2.lt
  have HB:=hide (And.intro hu (And.intro hb1 hb2))
  by_cases hlt:k<n
  · obtain ⟨b,of,p,rfl,hbw,hp,hc0,hc1,hc2,hc3⟩:=(Ars.at (HL.out.1.keeps hu)).2.2 k hlt
    have hkb:decide ((k:Int)<n)=true:=by simp;omega
    have HP:=hide hp
    clear hp hu hb1 hb2 z0 z1 z2 z3 fz0 fz1 fz2 fz3
    go_wp2
    refine forgetW (fun W0=>Up w W0∧Box W0 w.heap.size #[.int .i64 (0),.int .i64 (0),.int .i64 (0),.int .i64 (0)] 61∧Box W0 (w.heap.size+1) #[.int .i64 (o.1),.int .i64 (o.2.1),.int .i64 (o.2.2.1),.int .i64 (o.2.2.2)] 61∧Box W0 wr.heap.size #[.int .i64 (p.1),.int .i64 (p.2.1),.int .i64 (p.2.2.1),.int .i64 (p.2.2.2)] 61) ⟨(Up.via HB.out.1),(Box.via HB.out.2.1),(Box.via HB.out.2.2),Box.go⟩ ?_
    rintro W0 ⟨uW,bz,bo,bp⟩
    obtain ⟨c0,c1,c2,c3⟩:=bo.c4
    obtain ⟨d0,d1,d2,d3⟩:=bp.c4
    obtain ⟨fo0,fo1,fo2,fo3⟩:=bo.f4
    have lo:=bo.lt
    have lp:=bp.lt
    have HW:=hide (And.intro uW (And.intro bz bo))
    have hS0:=hide (show ∃ q,W0.drew=ext W0 q from ⟨_,ext_one W0⟩)
    clear bo bz bp uW hc0 hc1 hc2 hc3 y0 y1 y2 y3 fy0 fy1 fy2 fy3 hbw hkb
    refine wp_region_L (fun W=>∃ q,W=ext W0 q) 13 (by kernel_rfl) ?_
    refine anyL_take 0 (v:=(.pointer (some ⟨w.heap.size+1,0,none⟩))) rfl (by kernel_rfl) (fun _ _ _ h=>h) (.inl ⟨rfl,fun W hW=>?_⟩) hS0.out ?_
    · obtain ⟨q,rfl⟩:=hW
      simp [go_sem,c0,c1,c2,c3,d0,d1,d2,d3,lo,lp]
    simp only [Act.put,List.setIfInBounds_toArray,List.set_cons_zero,List.set_cons_succ]
    refine anyL_take 1 (v:=(.agg #[.int .i64 (o.1),.int .i64 (o.2.1)])) rfl (by kernel_rfl) (fun _ _ _ h=>h) (.inl ⟨rfl,fun W hW=>?_⟩) hS0.out ?_
    · obtain ⟨q,rfl⟩:=hW
      simp [go_sem,c0,c1,c2,c3,d0,d1,d2,d3,lo,lp]
    simp only [Act.put,List.setIfInBounds_toArray,List.set_cons_zero,List.set_cons_succ]
    refine anyL_take 2 (v:=(.pointer (some ⟨wr.heap.size,0,none⟩))) rfl (by kernel_rfl) (fun _ _ _ h=>h) (.inl ⟨rfl,fun W hW=>?_⟩) hS0.out ?_
    · obtain ⟨q,rfl⟩:=hW
      simp [go_sem,c0,c1,c2,c3,d0,d1,d2,d3,lo,lp]
    simp only [Act.put,List.setIfInBounds_toArray,List.set_cons_zero,List.set_cons_succ]
    refine anyL_take 3 (v:=(.agg #[.int .i64 (p.1),.int .i64 (p.2.1)])) rfl (by kernel_rfl) (fun _ _ _ h=>h) (.inl ⟨rfl,fun W hW=>?_⟩) hS0.out ?_
    · obtain ⟨q,rfl⟩:=hW
      simp [go_sem,c0,c1,c2,c3,d0,d1,d2,d3,lo,lp]
    simp only [Act.put,List.setIfInBounds_toArray,List.set_cons_zero,List.set_cons_succ]
    refine anyL_take 6 (v:=(.pointer (some ⟨w.heap.size+1,2,none⟩))) rfl (by kernel_rfl) (fun _ _ _ h=>h) (.inl ⟨rfl,fun W hW=>?_⟩) hS0.out ?_
    · obtain ⟨q,rfl⟩:=hW
      simp [go_sem,c0,c1,c2,c3,d0,d1,d2,d3,lo,lp]
    simp only [Act.put,List.setIfInBounds_toArray,List.set_cons_zero,List.set_cons_succ]
    refine anyL_take 7 (v:=(.agg #[.int .i64 (o.2.2.1),.int .i64 (o.2.2.2)])) rfl (by kernel_rfl) (fun _ _ _ h=>h) (.inl ⟨rfl,fun W hW=>?_⟩) hS0.out ?_
    · obtain ⟨q,rfl⟩:=hW
      simp [go_sem,c0,c1,c2,c3,d0,d1,d2,d3,lo,lp]
    simp only [Act.put,List.setIfInBounds_toArray,List.set_cons_zero,List.set_cons_succ]
    refine anyL_take 8 (v:=(.pointer (some ⟨wr.heap.size,2,none⟩))) rfl (by kernel_rfl) (fun _ _ _ h=>h) (.inl ⟨rfl,fun W hW=>?_⟩) hS0.out ?_
    · obtain ⟨q,rfl⟩:=hW
      simp [go_sem,c0,c1,c2,c3,d0,d1,d2,d3,lo,lp]
    simp only [Act.put,List.setIfInBounds_toArray,List.set_cons_zero,List.set_cons_succ]
    refine anyL_take 9 (v:=(.agg #[.int .i64 (p.2.2.1),.int .i64 (p.2.2.2)])) rfl (by kernel_rfl) (fun _ _ _ h=>h) (.inl ⟨rfl,fun W hW=>?_⟩) hS0.out ?_
    · obtain ⟨q,rfl⟩:=hW
      simp [go_sem,c0,c1,c2,c3,d0,d1,d2,d3,lo,lp]
    simp only [Act.put,List.setIfInBounds_toArray,List.set_cons_zero,List.set_cons_succ]
    refine anyL_two (i:=4) (j:=10) (by kernel_rfl) rfl rfl (fun K HK=>?_) (fun K HK=>?_)
    · go_wp2
      refine HK.out _ _ (fun _=>Up.go) ?_
      clear HK
      refine anyL_two (i:=5) (j:=10) (by kernel_rfl) rfl rfl (fun K HK=>?_) (fun K HK=>?_)
      · go_wp2_with (go_at_call 216;refine (fadd4 (T:=31) Box.go (by first|exact ho.out.2.1|exact ho.out.2.2)).mono ?_;intro _)
        refine HK.out _ _ (fun _=>Up.go) ?_
        clear HK
        refine anyL_one (i:=10) (by kernel_rfl) rfl (fun K HK=>?_)
        go_wp2
        refine HK.out _ _ (fun _=>Up.go) ?_
        clear HK
        refine anyL_one (i:=11) (by kernel_rfl) rfl (fun K HK=>?_)
        go_wp2_with (go_at_call 216;refine (fadd4 (T:=31) Box.go (by first|exact ho.out.2.1|exact ho.out.2.2)).mono ?_;intro _)
        refine HK.out _ _ (fun _=>Up.go) ?_
        clear HK
        refine anyL_one (i:=12) (by kernel_rfl) rfl (fun K HK=>?_)
        go_wp2
        refine HK.out _ _ (fun _=>Up.go) ?_
        clear HK
        refine forgetW (fun W1=>Up w W1∧Box W1 w.heap.size #[.int .i64 (0),.int .i64 (0),.int .i64 (0),.int .i64 (0)] 61∧Box W1 (w.heap.size+1) #[.int .i64 (o.1),.int .i64 (o.2.1),.int .i64 (o.2.2.1),.int .i64 (o.2.2.2)] 61) ⟨(Up.via HW.out.1),(Box.via HW.out.2.1),(Box.via HW.out.2.2)⟩ ?_
        clear c0 c1 c2 c3 d0 d1 d2 d3 fo0 fo1 fo2 fo3 lo lp hS0
        rintro W1 ⟨uW1,bz1,bo1⟩
        obtain ⟨c0,c1,c2,c3⟩:=bo1.c4
        obtain ⟨fo0,fo1,fo2,fo3⟩:=bo1.f4
        have lo:=bo1.lt
        have HY:=hide (And.intro uW1 (And.intro bz1 bo1))
        clear uW1 bz1 bo1
        refine anyL_one (i:=13) (by kernel_rfl) rfl (fun K HK=>?_)
        go_wp2
        refine HK.out _ _ (fun h=>absurd rfl h) ?_
        clear HK
        refine anyL_done (by kernel_rfl) ?_
        go_wp2
        refine ⟨⟨k+1,(sumP o p),by omega,by go_num,(Up.via HY.out.1),hide ⟨by rw [take_fold _ _ _ _ _ HP.out,ho.out.1],addP_check _ _,addP_check _ _⟩,(((HY.out.2.1.other (b':=w.heap.size+1) (by omega) 0 (.int .i64 (sumP o p).1)).other (b':=w.heap.size+1) (by omega) 1 (.int .i64 (sumP o p).2.1)).other (b':=w.heap.size+1) (by omega) 2 (.int .i64 (sumP o p).2.2.1)).other (b':=w.heap.size+1) (by omega) 3 (.int .i64 (sumP o p).2.2.2),?_⟩,by simp [intOf];omega⟩
        exact (((HY.out.2.2.set 0 (.int .i64 (sumP o p).1)).set 1 (.int .i64 (sumP o p).2.1)).set 2 (.int .i64 (sumP o p).2.2.1)).set 3 (.int .i64 (sumP o p).2.2.2)
      · go_wp2
        refine HK.out _ _ (fun _=>Up.go) ?_
        clear HK
        refine anyL_one (i:=5) (by kernel_rfl) rfl (fun K HK=>?_)
        go_wp2_with (go_at_call 216;refine (fadd4 (T:=31) Box.go (by first|exact ho.out.2.1|exact ho.out.2.2)).mono ?_;intro _)
        refine HK.out _ _ (fun _=>Up.go) ?_
        clear HK
        refine anyL_one (i:=11) (by kernel_rfl) rfl (fun K HK=>?_)
        go_wp2_with (go_at_call 216;refine (fadd4 (T:=31) Box.go (by first|exact ho.out.2.1|exact ho.out.2.2)).mono ?_;intro _)
        refine HK.out _ _ (fun _=>Up.go) ?_
        clear HK
        refine anyL_one (i:=12) (by kernel_rfl) rfl (fun K HK=>?_)
        go_wp2
        refine HK.out _ _ (fun _=>Up.go) ?_
        clear HK
        refine forgetW (fun W1=>Up w W1∧Box W1 w.heap.size #[.int .i64 (0),.int .i64 (0),.int .i64 (0),.int .i64 (0)] 61∧Box W1 (w.heap.size+1) #[.int .i64 (o.1),.int .i64 (o.2.1),.int .i64 (o.2.2.1),.int .i64 (o.2.2.2)] 61) ⟨(Up.via HW.out.1),(Box.via HW.out.2.1),(Box.via HW.out.2.2)⟩ ?_
        clear c0 c1 c2 c3 d0 d1 d2 d3 fo0 fo1 fo2 fo3 lo lp hS0
        rintro W1 ⟨uW1,bz1,bo1⟩
        obtain ⟨c0,c1,c2,c3⟩:=bo1.c4
        obtain ⟨fo0,fo1,fo2,fo3⟩:=bo1.f4
        have lo:=bo1.lt
        have HY:=hide (And.intro uW1 (And.intro bz1 bo1))
        clear uW1 bz1 bo1
        refine anyL_one (i:=13) (by kernel_rfl) rfl (fun K HK=>?_)
        go_wp2
        refine HK.out _ _ (fun h=>absurd rfl h) ?_
        clear HK
        refine anyL_done (by kernel_rfl) ?_
        go_wp2
        refine ⟨⟨k+1,(sumP o p),by omega,by go_num,(Up.via HY.out.1),hide ⟨by rw [take_fold _ _ _ _ _ HP.out,ho.out.1],addP_check _ _,addP_check _ _⟩,(((HY.out.2.1.other (b':=w.heap.size+1) (by omega) 0 (.int .i64 (sumP o p).1)).other (b':=w.heap.size+1) (by omega) 1 (.int .i64 (sumP o p).2.1)).other (b':=w.heap.size+1) (by omega) 2 (.int .i64 (sumP o p).2.2.1)).other (b':=w.heap.size+1) (by omega) 3 (.int .i64 (sumP o p).2.2.2),?_⟩,by simp [intOf];omega⟩
        exact (((HY.out.2.2.set 0 (.int .i64 (sumP o p).1)).set 1 (.int .i64 (sumP o p).2.1)).set 2 (.int .i64 (sumP o p).2.2.1)).set 3 (.int .i64 (sumP o p).2.2.2)
    · go_wp2
      refine HK.out _ _ (fun _=>Up.go) ?_
      clear HK
      refine anyL_one (i:=4) (by kernel_rfl) rfl (fun K HK=>?_)
      go_wp2
      refine HK.out _ _ (fun _=>Up.go) ?_
      clear HK
      refine anyL_one (i:=5) (by kernel_rfl) rfl (fun K HK=>?_)
      go_wp2_with (go_at_call 216;refine (fadd4 (T:=31) Box.go (by first|exact ho.out.2.1|exact ho.out.2.2)).mono ?_;intro _)
      refine HK.out _ _ (fun _=>Up.go) ?_
      clear HK
      refine anyL_one (i:=11) (by kernel_rfl) rfl (fun K HK=>?_)
      go_wp2_with (go_at_call 216;refine (fadd4 (T:=31) Box.go (by first|exact ho.out.2.1|exact ho.out.2.2)).mono ?_;intro _)
      refine HK.out _ _ (fun _=>Up.go) ?_
      clear HK
      refine anyL_one (i:=12) (by kernel_rfl) rfl (fun K HK=>?_)
      go_wp2
      refine HK.out _ _ (fun _=>Up.go) ?_
      clear HK
      refine forgetW (fun W1=>Up w W1∧Box W1 w.heap.size #[.int .i64 (0),.int .i64 (0),.int .i64 (0),.int .i64 (0)] 61∧Box W1 (w.heap.size+1) #[.int .i64 (o.1),.int .i64 (o.2.1),.int .i64 (o.2.2.1),.int .i64 (o.2.2.2)] 61) ⟨(Up.via HW.out.1),(Box.via HW.out.2.1),(Box.via HW.out.2.2)⟩ ?_
      clear c0 c1 c2 c3 d0 d1 d2 d3 fo0 fo1 fo2 fo3 lo lp hS0
      rintro W1 ⟨uW1,bz1,bo1⟩
      obtain ⟨c0,c1,c2,c3⟩:=bo1.c4
      obtain ⟨fo0,fo1,fo2,fo3⟩:=bo1.f4
      have lo:=bo1.lt
      have HY:=hide (And.intro uW1 (And.intro bz1 bo1))
      clear uW1 bz1 bo1
      refine anyL_one (i:=13) (by kernel_rfl) rfl (fun K HK=>?_)
      go_wp2
      refine HK.out _ _ (fun h=>absurd rfl h) ?_
      clear HK
      refine anyL_done (by kernel_rfl) ?_
      go_wp2
      refine ⟨⟨k+1,(sumP o p),by omega,by go_num,(Up.via HY.out.1),hide ⟨by rw [take_fold _ _ _ _ _ HP.out,ho.out.1],addP_check _ _,addP_check _ _⟩,(((HY.out.2.1.other (b':=w.heap.size+1) (by omega) 0 (.int .i64 (sumP o p).1)).other (b':=w.heap.size+1) (by omega) 1 (.int .i64 (sumP o p).2.1)).other (b':=w.heap.size+1) (by omega) 2 (.int .i64 (sumP o p).2.2.1)).other (b':=w.heap.size+1) (by omega) 3 (.int .i64 (sumP o p).2.2.2),?_⟩,by simp [intOf];omega⟩
      exact (((HY.out.2.2.set 0 (.int .i64 (sumP o p).1)).set 1 (.int .i64 (sumP o p).2.1)).set 2 (.int .i64 (sumP o p).2.2.1)).set 3 (.int .i64 (sumP o p).2.2.2)
  · have hkb:decide ((k:Int)<n)=false:=by simp;omega
    obtain rfl:k=n:=by omega
    clear hu hb1 hb2
    go_wp2
    have q:=(((HB.out.2.1.set 0 (.int .i64 o.1)).set 1 (.int .i64 o.2.1)).set 2 (.int .i64 o.2.2.1)).set 3 (.int .i64 o.2.2.2)
    have q0:=q.cell 0 (v:=.int .i64 o.1) rfl
    have q1:=q.cell 1 (v:=.int .i64 o.2.1) rfl
    have q2:=q.cell 2 (v:=.int .i64 o.2.2.1) rfl
    have q3:=q.cell 3 (v:=.int .i64 o.2.2.2) rfl
    have ho':=ho.out.1
    rw [List.take_of_length_le (by rw [← HL.out.2];exact Nat.le_refl _)] at ho'
    (refine bodyPost_give (Up.via HB.out.1) rfl ⟨_,(by simp [results,Tryz.results190,go_sem,q0,q1,q2,q3];rfl),?_⟩)
    unfold sum0
    rw [ho']
theorem asked_zero {bs:List Bod} {home:Int} {l h:Sp} {g t:Int} {a:Ar} (e:askedE bs home l h g t a=0) :
 worldE bs home=0∧driftE l h g=0∧(0≤t∧t≤1073741824)∧areaE a.1 a.2.1 a.2.2.1 a.2.2.2=0∧limB a.1 a.2.1=true∧limB a.2.2.1 a.2.2.2=true:=by
 unfold askedE at e
 by_cases h1:worldE bs home=0
 · rw [if_pos h1] at e
   by_cases h2:driftE l h g=0
   · rw [if_pos h2] at e
     by_cases h3:withinB t 0 1073741824=true
     · rw [if_pos h3] at e
       by_cases h4:areaE a.1 a.2.1 a.2.2.1 a.2.2.2=0
       · rw [if_pos h4] at e
         by_cases h5:limB a.1 a.2.1=true∧limB a.2.2.1 a.2.2.2=true
         · exact ⟨h1,h2,by simpa [withinB] using h3,h4,h5.1,h5.2⟩
         · rw [if_neg h5] at e;omega
       · rw [if_neg h4] at e;exact absurd e h4
     · rw [if_neg h3] at e;omega
   · rw [if_neg h2] at e;exact absurd e h2
 · rw [if_neg h1] at e;exact absurd e h1
def zA:Ar:=(0,0,0,0)
def lightV (bs:List Bod) (home:Int) (l h:Sp) (g t:Int) (a:Ar):Ar×Int :=
 if askedE bs home l h g t a=0 then (lightP l (pullB t a (bs.getD 0 ⟨0,0,[]⟩)),0) else (zA,askedE bs home l h g t a)
def heatV (bs:List Bod) (home:Int) (l h:Sp) (g t:Int) (a:Ar):Ar×Int :=
 if askedE bs home l h g t a=0 then (heatP h (pullB t a (bs.getD 0 ⟨0,0,[]⟩)),0) else (zA,askedE bs home l h g t a)
theorem fbody_any {K:Nat→Prop} {w:World} {a:Option Addr} {n c:Nat} {bs:List Bod} {home t:Int} {i:Nat} (hl:Bods K w (.slice a n c) bs) (hh:I64 home) (hv:worldE bs home=0) (hi:i<bs.length) (t0:0≤t) (t1:t≤1073741824) (x:Ar) :
 ∃ h:Value,(∀ W,Up w W→Gives Tryz.prog 214 #[.agg #[.slice a n c,.int .i64 home],.int .i64 i,.int .i64 t] W h)∧∀ W,Gives Tryz.prog 215 #[h,.agg #[.int .i64 x.1,.int .i64 x.2.1,.int .i64 x.2.2.1,.int .i64 x.2.2.2]] W (.agg #[.int .i64 (pullB t x (bs.getD i ⟨0,0,[]⟩)).1,.int .i64 (pullB t x (bs.getD i ⟨0,0,[]⟩)).2.1,.int .i64 (pullB t x (bs.getD i ⟨0,0,[]⟩)).2.2.1,.int .i64 (pullB t x (bs.getD i ⟨0,0,[]⟩)).2.2.2]):=by
 have hp:bs[i]?=some bs[i]:=List.getElem?_eq_getElem hi
 obtain ⟨tv,htv⟩:=fof_any hl hh hv hp t0 t1
 have hb:=bodyE_zero ((worldE_zero hv).2.2.1 _ (List.getElem_mem hi))
 have e:bs.getD i ⟨0,0,[]⟩=bs[i]:=by simp [List.getD,hp]
 rw [e]
 exact ⟨_,htv,fun W=>fpull_any _ _ tv (placeV bs[i] t) x hb.2.1.1 hb.2.1.2 W⟩
end Go.Proofs.YteafglginnonnaaGreat
