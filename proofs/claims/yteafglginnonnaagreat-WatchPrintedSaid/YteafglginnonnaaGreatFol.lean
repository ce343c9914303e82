/- Several texts in one. -/
import Derived.Test.YteafglginnonnaaGreatWst
import Derived.Test.YteafglginnonnaaGreatWmo
import Derived.Test.YteafglginnonnaaGreatOwn
import Derived.Test.YteafglginnonnaaGreatForceI
/- Cells that are left by the same readings are mixed up with each other: their number is at most what was said ahead. No conditions. -/
set_option linter.unusedVariables false
set_option linter.unusedSimpArgs false
namespace Go.Proofs.YteafglginnonnaaGreat
open Go.RowKit Go.Shelf
def VLim (v:VwD):Prop:=-1099511627776≤v.2.2.1∧v.2.2.2≤1099511627776
theorem valid_lim {a b c d r:Int} (h1:-1099511627776≤a) (h2:b≤1099511627776) (h3:-1099511627776≤c) (h4:d≤1099511627776) (ha:a≤r) (hb:r≤b) (hc:c≤r) (hd:r≤d):validE a b c d=0:=by
 have hf:∀ x:Int,-1099511627776≤x→x≤1099511627776→fitsB x=true:=fun x h h'=>by unfold fitsB withinB;exact decide_eq_true ⟨by omega,by omega⟩
 have c1:checkE a b=0:=by unfold checkE;rw [if_pos ⟨hf a (by omega) (by omega),hf b (by omega) (by omega)⟩,if_neg (by omega)]
 have c2:checkE c d=0:=by unfold checkE;rw [if_pos ⟨hf c (by omega) (by omega),hf d (by omega) (by omega)⟩,if_neg (by omega)]
 unfold validE
 rw [if_pos c1]
 exact c2
theorem mixed_of {v v':VwD} {r:Int×Int} (hr:r.1=1∨r.1=2) (h:leftB v r=true) (h':leftB v' r=true) (hv:v.1=true→VLim v) (hv':v'.1=true→VLim v'):mixedB v v'=true:=by
 unfold leftB at h h'
 unfold mixedB
 rcases hr with hr | hr
 · rw [if_pos hr] at h h'
   rw [h,h']
   simp
 · rw [if_neg (by omega),if_pos hr] at h h'
   simp only [Bool.and_eq_true,withinB,decide_eq_true_eq] at h h'
   obtain ⟨m1,l1,l2⟩:=h
   obtain ⟨m2,k1,k2⟩:=h'
   have b1:=hv m1
   have b2:=hv' m2
   have hm:(meetS v.2.2.1 v.2.2.2 v'.2.2.1 v'.2.2.2).2.2=true:=by
    unfold meetS
    rw [if_pos ⟨valid_lim b1.1 b1.2 b2.1 b2.2 l1 l2 k1 k2,by omega⟩]
   rw [m1,m2,hm]
   rfl
theorem rch_fail {su:Int→Bool}:∀ (f:Nat) (z:List (Int×Int×Int)),z.countP (fun x=>decide (x.2.1=0))≤f→(∀ x∈z,x.2.1=0→su x.1=false)→Rch su f (z.map (·.1)) ((z.filter (fun x=>!decide (x.2.1=0))).map (·.1))
 | 0,z,hc,_=>by
  have h0:∀ x∈z,¬ decide (x.2.1=0)=true:=List.countP_eq_zero.1 (by omega)
  show _=_
  rw [List.filter_eq_self.2 (fun x hx=>by have:=h0 x hx;simpa using this)]
 | f+1,z,hc,hs=>by
  by_cases h0:∃ x∈z,x.2.1=0
  · obtain ⟨x,hx,hx0⟩:=h0
    obtain ⟨a,b,rfl⟩:=List.append_of_mem hx
    have hc2:(a++b).countP (fun x=>decide (x.2.1=0))≤f:=by
     rw [List.countP_append,List.countP_cons] at hc
     rw [List.countP_append]
     simp only [hx0,decide_true,if_true] at hc
     omega
    have ih:=rch_fail (su:=su) f (a++b) hc2 (fun y hy=>hs y (by
     rcases List.mem_append.1 hy with h | h
     · exact List.mem_append_left _ h
     · exact List.mem_append_right _ (List.mem_cons_of_mem _ h)))
    refine .inr ⟨a.length,by simp,?_,?_⟩
    · have:=hs x hx hx0
      simp [List.getD,this]
    · have e1:((a++x::b).map (·.1)).eraseIdx a.length=(a++b).map (·.1):=by
       rw [List.map_append,List.map_append,List.map_cons,List.eraseIdx_append_of_length_le (by simp)]
       simp
      have e2:(a++x::b).filter (fun x=>!decide (x.2.1=0))=(a++b).filter (fun x=>!decide (x.2.1=0)):=by
       rw [List.filter_append,List.filter_append,List.filter_cons,if_neg (by simp [hx0])]
      rw [e1,e2]
      exact ih
  · refine .inl ?_
    rw [List.filter_eq_self.2 (fun x hx=>by
     have:¬ x.2.1=0:=fun e=>h0 ⟨x,hx,e⟩
     simpa using this)]
theorem cntT_conf {T:Int→Int→VwD} {c:List Int} {cn i:Nat}:∀ {k:Nat},i<k→cntT T c i cn≤confT T c cn k
 | k+1,h=>by
  rw [confT_succ]
  rcases Nat.lt_or_ge i k with h1 | h1
  · have:=cntT_conf (T:=T) (c:=c) (cn:=cn) h1
    omega
  · rw [show i=k by omega]
    omega
theorem keep_at {T:Int→Int→VwD} {ch:List Int} {rs:List (Int×Int)} {i:Int} {n:Nat} (h:keepT T ch rs i n=true) {j:Nat} (hj:j<n):leftB (T (ch.getD j 0) i) (rs.getD j (0,0))=true :=
 List.all_eq_true.1 h j (List.mem_range.2 hj)
theorem left_most {T:Int→Int→VwD} {su:Int→Bool} {cn f:Nat} {ch:List Int} {rs:List (Int×Int)} (hl:rs.length=ch.length) (hr:∀ r∈rs,r.1=0∨r.1=1∨r.1=2)
 (hf:(ch.zip rs).countP (fun x=>decide (x.2.1=0))≤f) (hs:∀ x∈ch.zip rs,x.2.1=0→su x.1=false)
 (hT:∀ o∈ch,∀ i:Nat,i<cn→(T o i).1=true→VLim (T o i)):(leftL T ch rs cn).length≤worstT T su cn f ch:=by
 obtain ⟨P,hP⟩:∃ P,P=(fun (i:Nat)=>keepT T ch rs i ch.length):=⟨_,rfl⟩
 have hlen:(leftL T ch rs cn).length=(List.range cn).countP P:=by
  unfold leftL
  rw [List.length_map,hP,List.countP_eq_length_filter]
 rw [hlen]
 by_cases h0:∃ i∈List.range cn,P i=true
 rotate_left
 · have:(List.range cn).countP P=0:=List.countP_eq_zero.2 (fun i hi h=>h0 ⟨i,hi,h⟩)
   omega
 obtain ⟨i0,hi0,hp0⟩:=h0
 obtain ⟨z,hz⟩:∃ z,z=ch.zip rs:=⟨_,rfl⟩
 rw [← hz] at hf hs
 have hzc:z.map (·.1)=ch:=by rw [hz];exact List.map_fst_zip (by omega)
 have hR:=rch_fail (su:=su) f z hf hs
 rw [hzc] at hR
 obtain ⟨c,hc⟩:∃ c,c=(z.filter (fun x=>!decide (x.2.1=0))).map (·.1):=⟨_,rfl⟩
 rw [← hc] at hR
 have h1:=worstT_le_iff.1 (Nat.le_refl (worstT T su cn f ch)) c hR
 refine Nat.le_trans ?_ h1
 have h2:cntT T c i0 cn≤confT T c cn cn:=cntT_conf (List.mem_range.1 hi0)
 refine Nat.le_trans ?_ h2
 unfold cntT
 refine List.countP_mono_left fun k hk hpk=>?_
 unfold mixT
 rw [Bool.or_eq_true]
 refine .inr ?_
 rw [Bool.not_eq_true',List.any_eq_false]
 intro o ho
 rw [hc] at ho
 obtain ⟨⟨o',r⟩,hx,rfl⟩:=List.mem_map.1 ho
 obtain ⟨hx1,hx2⟩:=List.mem_filter.1 hx
 rw [hz] at hx1
 obtain ⟨j,hj,hxj⟩:=List.getElem_of_mem hx1
 rw [List.getElem_zip] at hxj
 have hj1:j<ch.length:=by rw [List.length_zip] at hj;omega
 have hj2:j<rs.length:=by omega
 have eo:ch.getD j 0=o':=by rw [List.getD,List.getElem?_eq_getElem hj1];exact (Prod.mk.inj hxj).1
 have er:rs.getD j (0,0)=r:=by rw [List.getD,List.getElem?_eq_getElem hj2];exact (Prod.mk.inj hxj).2
 have hoc:o'∈ch:=by rw [← eo,List.getD,List.getElem?_eq_getElem hj1];exact List.getElem_mem hj1
 have hrr:r∈rs:=by rw [← er,List.getD,List.getElem?_eq_getElem hj2];exact List.getElem_mem hj2
 rw [hP] at hp0 hpk
 have k1:=keep_at hp0 hj1
 have k2:=keep_at hpk hj1
 rw [eo,er] at k1 k2
 have hm:=mixed_of (by
  have h0:¬ r.1=0:=by simpa using hx2
  have:=hr r hrr
  omega) k1 k2 (hT o' hoc i0 (List.mem_range.1 hi0)) (hT o' hoc k (List.mem_range.1 hk))
 unfold apartT
 simp [hm]
abbrev stA (s:StD):Array Value:=#[.int .i64 (s.1),.int .i64 (s.2.1),.int .i64 (s.2.2.1),.int .i64 (s.2.2.2)]
def StOk (s:StD):Prop:=(-33554432≤s.1∧s.1≤33554432)∧(-33554432≤s.2.1∧s.2.1≤33554432)∧(-1048576≤s.2.2.1∧s.2.2.1≤1048576) ∧ -1048576≤s.2.2.2∧s.2.2.2≤1048576
def folR (R:Ar×Int) (s n:StD):Bool:=decide (R.2=0)&&(withinB (n.2.2.1 - s.2.2.1) R.1.1 R.1.2.1&&(withinB (n.2.2.2 - s.2.2.2) R.1.2.2.1 R.1.2.2.2&&(decide (n.1=s.1+n.2.2.1)&&decide (n.2.1=s.2.1+n.2.2.2))))
def followsV (bs:List Bod) (home:Int) (d:DriftD) (t:Int) (s n:StD):Bool:=folR (overV bs home d.l d.h d.g t (s.1,s.1,s.2.1,s.2.1)) s n
set_option maxRecDepth 100000 in
set_option maxHeartbeats 8000000 in
theorem ofollows_any {K:Nat→Prop} {w:World} {a:Option Addr} {n c:Nat} {bs:List Bod} {home:Int} (hl:Bods K w (.slice a n c) bs) (hh:I64 home) (d:DriftD) (t:Int) {s m:StD} (hs:StOk s) (hm:StOk m) :
 Gives Tryz.prog 68 #[.agg #[.slice a n c,.int .i64 home],.agg #[.int .i64 (d.l.1),.int .i64 (d.l.2),.int .i64 (d.h.1),.int .i64 (d.h.2),.int .i64 (d.g)],.int .i64 t,.agg (stA s),.agg (stA m)] w (.bool (followsV bs home d t s m)):=by
 have HP:=hide (fun W (hu:Up w W)=>fPull_any (hl.keeps (hu.keeps K)) hh d.l d.h d.g t s.1 s.2.1)
 unfold followsV
 obtain ⟨sx,sy,su,sv⟩:=s
 obtain ⟨mx,my,mu,mv⟩:=m
 obtain ⟨h1,h2,h3,h4,h5⟩:=hs
 obtain ⟨g1,g2,g3,g4,g5⟩:=hm
 dsimp only at h1 h2 h3 h4 h5 g1 g2 g3 g4 g5 HP ⊢
 unfold folR stA
 dsimp only
 obtain ⟨R,hR⟩:∃ R,R=overV bs home d.l d.h d.g t (sx,sx,sy,sy):=⟨_,rfl⟩
 rw [← hR] at HP
 rw [← hR]
 clear hl hR
 obtain ⟨⟨r0,r1,r2,r3⟩,e⟩:=R
 dsimp only at HP ⊢
 have HI:=hide (fun (x l h:Int) W=>owithin_any x l h W)
 obtain ⟨B1,hB1⟩:∃ B,B=withinB (mu - su) r0 r1:=⟨_,rfl⟩
 obtain ⟨B2,hB2⟩:∃ B,B=withinB (mv - sv) r2 r3:=⟨_,rfl⟩
 have HI1:=hide (fun W=>owithin_any (mu - su) r0 r1 W)
 have HI2:=hide (fun W=>owithin_any (mv - sv) r2 r3 W)
 rw [← hB1] at HI1
 rw [← hB2] at HI2
 rw [← hB1,← hB2]
 clear hB1 hB2 HI
 (unfold Gives;go_enter Tryz.func68,Tryz.ntmps68)
 go_wp2_with fail
 go_at_call 115
 refine forgetK (fun U=>Up w U∧Box U w.heap.size #[.slice a n c,.int .i64 home] 25∧Box U (w.heap.size+1+1) #[.int .i64 (sx),.int .i64 (sy),.int .i64 (su),.int .i64 (sv)] 37∧Box U (w.heap.size+1+1+1) #[.int .i64 (mx),.int .i64 (my),.int .i64 (mu),.int .i64 (mv)] 37) ⟨Up.go,Box.go,Box.go,Box.go⟩ ?_
 rintro U ⟨hu,b0,b2,b3⟩
 have HU:=hide hu
 obtain ⟨a0,a1,a2,a3⟩:=b2.c4
 have la:=b2.lt
 obtain ⟨c0,c1,c2,c3⟩:=b3.c4
 have lc:=b3.lt
 refine (HP.out _ hu).mono ?_
 clear hu b0 b2 b3 HP
 intro p
 go_wp2_with (first|(go_at_call 66;(with_reducible refine (HI1.out _).mono ?_);intro _)|(go_at_call 66;(with_reducible refine (HI2.out _).mono ?_);intro _))
 all_goals (go_ret;refine ⟨?_,HU.out.trans Up.go⟩)
 all_goals (go_light;first|(simp_all;done)|(simp_all;rw [Bool.eq_iff_iff];simp))
end Go.Proofs.YteafglginnonnaaGreat
