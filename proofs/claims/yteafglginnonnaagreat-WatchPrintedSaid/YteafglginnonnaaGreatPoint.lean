/- Several texts in one. -/
import Derived.Test.YteafglginnonnaaGreatFol
import Derived.Test.YteafglginnonnaaGreatRootR
import Derived.Test.YteafglginnonnaaGreatRingF
import Derived.Test.YteafglginnonnaaGreatForceM
/- Package orbit: Truth. Conditions: what lies in memory. -/
set_option linter.unusedVariables false
set_option linter.unusedSimpArgs false
namespace Go.Proofs.YteafglginnonnaaGreat
open Go.RowKit Go.Shelf
def TSt:Rw StD:=⟨4,fun s=>[.int .i64 s.1,.int .i64 s.2.1,.int .i64 s.2.2.1,.int .i64 s.2.2.2],by decide,fun _=>rfl,fun _ u hu=>by
 simp only [List.mem_cons,List.not_mem_nil,or_false] at hu
 rcases hu with rfl | rfl | rfl | rfl <;> rfl⟩
theorem Sts.at {K:Nat→Prop} {w:World} {a:Option Addr} {n c:Nat} {l:List StD} (h:Lst TSt K w (.slice a n c) l):n=l.length∧n≤9223372036854775807 ∧
 ∀ i,i<n→∃ b o p,a=some ⟨b,o,none⟩∧K b∧b<w.heap.size∧l[i]?=some p∧w.cell? ⟨b,o+i*4,none⟩=some (.int .i64 p.1)∧w.cell? ⟨b,o+i*4+1,none⟩=some (.int .i64 p.2.1)∧w.cell? ⟨b,o+i*4+2,none⟩=some (.int .i64 p.2.2.1)∧w.cell? ⟨b,o+i*4+3,none⟩=some (.int .i64 p.2.2.2):=by
 obtain ⟨a',c',h1,h2,h3⟩:=h
 simp at h1
 obtain ⟨rfl,rfl,rfl⟩:=h1
 refine ⟨rfl,h2,fun i hi=>?_⟩
 obtain ⟨b,o,rfl,hK,hb,hc⟩:=h3 (by intro e;subst e;simp at hi)
 obtain ⟨vs,rfl,_,hx⟩:=hc i l[i] (List.getElem?_eq_getElem hi)
 exact ⟨b,o,l[i],rfl,hK,hb,List.getElem?_eq_getElem hi,hx 0 _ rfl,hx 1 _ rfl,hx 2 _ rfl,hx 3 _ rfl⟩
def stE (s:StD):Int:=stateE s.1 s.2.1 s.2.2.1 s.2.2.2
def badT (bs:List Bod) (home:Int) (d:DriftD) (t:Int) (l:List StD) (i:Nat):Bool:=decide (stE (l.getD i (0,0,0,0))≠0) || (decide (0<i)&&!followsV bs home d (t+i - 1) (l.getD (i - 1) (0,0,0,0)) (l.getD i (0,0,0,0)))
def firstN (f:Nat→Bool) (n:Nat):Int:=match (List.range n).find? f with
 | some i=>i
 | none=>-1
theorem firstN_none {f:Nat→Bool} {n:Nat} (h:∀ i,i<n→f i=false):firstN f n = -1:=by
 unfold firstN
 rw [List.find?_eq_none.2 (fun i hi=>by rw [h i (List.mem_range.1 hi)];decide)]
theorem firstN_some {f:Nat→Bool} {n k:Nat} (hk:k<n) (h:∀ i,i<k→f i=false) (hf:f k=true):firstN f n=k:=by
 unfold firstN
 have:(List.range n).find? f=some k:=by
  rw [List.find?_range_eq_some]
  exact ⟨hf,List.mem_range.2 hk,fun j hj=>by rw [h j hj];rfl⟩
 rw [this]
def truthV (bs:List Bod) (home:Int) (d:DriftD) (t:Int) (l:List StD):Int :=
 if worldDE bs home d=0∧withinB t 0 1073741824=true∧t+l.length - 1≤1073741824 then firstN (badT bs home d t l) l.length else 0
set_option maxRecDepth 100000 in
set_option maxHeartbeats 20000000 in
theorem otruth_any {K:Nat→Prop} {w:World} {a:Option Addr} {n c:Nat} {bs:List Bod} {home:Int} (hl:Bods K w (.slice a n c) bs) (hh:I64 home) (d:DriftD) (t:Int) {KS:Nat→Prop} {la:Option Addr} {ln lc:Nat} {l:List StD} (hS:Lst TSt KS w (.slice la ln lc) l) (hlen:l.length≤1000000) :
 Gives Tryz.prog 28 #[.agg #[.slice a n c,.int .i64 home],.agg #[.int .i64 (d.l.1),.int .i64 (d.l.2),.int .i64 (d.h.1),.int .i64 (d.h.2),.int .i64 (d.g)],.int .i64 t,.slice la ln lc] w (.int .i64 (truthV bs home d t l)):=by
 have HC:=hide (fun W (hu:Up w W)=>oworld_any (hl.keeps (hu.keeps K)) hh d)
 have HF:=hide (fun W (hu:Up w W) (s m:StD) (hs:StOk s) (hm:StOk m) (q:Int)=>ofollows_any (hl.keeps (hu.keeps K)) hh d q hs hm)
 have HI:=hide (fun W=>owithin_any t 0 1073741824 W)
 have HST:=hide (fun (s:StD) W=>ostate_any s.1 s.2.1 s.2.2.1 s.2.2.2 W)
 have HS:=hide hS
 have hln:=(Sts.at hS).1
 unfold truthV
 rw [← hln]
 have HLN:=hide hln
 have hln6:ln≤1000000:=by omega
 obtain ⟨E,hE⟩:∃ E,E=worldDE bs home d:=⟨_,rfl⟩
 obtain ⟨G,hG⟩:∃ G,G=withinB t 0 1073741824:=⟨_,rfl⟩
 rw [← hE] at HC
 rw [← hG] at HI
 rw [← hE,← hG]
 have HG:=hide hG
 clear hl hS hlen hln hE hG
 by_cases h0:E=0
 rotate_left
 · rw [if_neg (fun h=>h0 h.1)]
   have heb:(E != 0)=true:=by simpa using h0
   clear h0 HG
   (unfold Gives;go_enter Tryz.func28,Tryz.ntmps28)
   go_wp2_with fail
   go_at_call 65
   refine forgetK (fun U=>Up w U∧Box U w.heap.size #[.slice a n c,.int .i64 home] 25∧Box U (w.heap.size+1) #[.int .i64 (d.l.1),.int .i64 (d.l.2),.int .i64 (d.h.1),.int .i64 (d.h.2),.int .i64 (d.g)] 33) ⟨Up.go,Box.go,Box.go⟩ ?_
   rintro U ⟨hu,b0,b1⟩
   have HB:=hide (And.intro hu (And.intro b0 b1))
   clear hu b0 b1
   refine (HC.out _ HB.out.1).mono ?_
   intro p1
   go_wp2_with (go_at_call 66;(with_reducible refine (HI.out _).mono ?_);intro _)
   go_ret
   exact ⟨rfl,HB.out.1.trans Up.go⟩
 subst h0
 rcases G with _ | _
 · rw [if_neg (fun h=>absurd h.2.1 (by decide))]
   clear HG
   (unfold Gives;go_enter Tryz.func28,Tryz.ntmps28)
   go_wp2_with fail
   go_at_call 65
   refine forgetK (fun U=>Up w U∧Box U w.heap.size #[.slice a n c,.int .i64 home] 25∧Box U (w.heap.size+1) #[.int .i64 (d.l.1),.int .i64 (d.l.2),.int .i64 (d.h.1),.int .i64 (d.h.2),.int .i64 (d.g)] 33) ⟨Up.go,Box.go,Box.go⟩ ?_
   rintro U ⟨hu,b0,b1⟩
   have HB:=hide (And.intro hu (And.intro b0 b1))
   clear hu b0 b1
   refine (HC.out _ HB.out.1).mono ?_
   intro p1
   go_wp2_with (go_at_call 66;(with_reducible refine (HI.out _).mono ?_);intro _)
   go_ret
   exact ⟨rfl,HB.out.1.trans Up.go⟩
 have htt:0≤t∧t≤1073741824:=by have:=HG.out.symm;simpa [withinB] using this
 clear HG
 by_cases h2:1073741824<t+ln - 1
 · rw [if_neg (fun h=>by have:=h.2.2;omega)]
   have d2:decide (1073741824<t+(ln:Int) - 1)=true:=decide_eq_true h2
   clear h2
   (unfold Gives;go_enter Tryz.func28,Tryz.ntmps28)
   go_wp2_with fail
   go_at_call 65
   refine forgetK (fun U=>Up w U∧Box U w.heap.size #[.slice a n c,.int .i64 home] 25∧Box U (w.heap.size+1) #[.int .i64 (d.l.1),.int .i64 (d.l.2),.int .i64 (d.h.1),.int .i64 (d.h.2),.int .i64 (d.g)] 33) ⟨Up.go,Box.go,Box.go⟩ ?_
   rintro U ⟨hu,b0,b1⟩
   have HB:=hide (And.intro hu (And.intro b0 b1))
   clear hu b0 b1
   refine (HC.out _ HB.out.1).mono ?_
   intro p1
   go_wp2_with (go_at_call 66;(with_reducible refine (HI.out _).mono ?_);intro _)
   go_ret
   exact ⟨rfl,HB.out.1.trans Up.go⟩
 rw [if_pos ⟨rfl,rfl,by omega⟩]
 have d2:decide (1073741824<t+(ln:Int) - 1)=false:=decide_eq_false h2
 (unfold Gives;go_enter Tryz.func28,Tryz.ntmps28)
 go_wp2_with fail
 go_at_call 65
 refine forgetK (fun U=>Up w U∧Box U w.heap.size #[.slice a n c,.int .i64 home] 25∧Box U (w.heap.size+1) #[.int .i64 (d.l.1),.int .i64 (d.l.2),.int .i64 (d.h.1),.int .i64 (d.h.2),.int .i64 (d.g)] 33) ⟨Up.go,Box.go,Box.go⟩ ?_
 rintro U ⟨hu,b0,b1⟩
 have HB:=hide (And.intro hu (And.intro b0 b1))
 clear hu b0 b1
 refine (HC.out _ HB.out.1).mono ?_
 intro p1
 go_wp2_with (go_at_call 66;(with_reducible refine (HI.out _).mono ?_);intro _)
 clear d2 h2
 go_loopw [30] (fun s30 wr=>∃ k:Nat,k≤ln∧s30=.int .i64 k∧Hid (Up U wr)∧Hid (∀ i,i<k→badT bs home d t l i=false)) (fun s30 _=>ln - (intOf s30).toNat)
 case atStart=>exact ⟨0,by omega,rfl,hide Up.go,hide (fun i hi=>by omega)⟩
 case round =>
  obtain ⟨k,hk,rfl,HU,HK⟩:=hrel
  by_cases hlt:k<ln
  · have hkb:decide ((k:Int)<ln)=true:=by simp;omega
    have hkn:decide (k<ln)=true:=by simp;omega
    obtain ⟨b,o,p,rfl,hKb,hbw,hp,c0,c1,c2,c3⟩:=(Sts.at (HS.out.up (HB.out.1.trans HU.out))).2.2 k hlt
    have hgp:l.getD k (0,0,0,0)=p:=by rw [List.getD,hp];rfl
    have HP:=hide hp
    have HGP:=hide hgp
    have hbad:badT bs home d t l k=(decide (stE p≠0) || (decide (0<k)&&!followsV bs home d (t+k - 1) (l.getD (k - 1) (0,0,0,0)) p)):=by unfold badT;rw [hgp]
    have HBD:=hide hbad
    clear hKb hp hgp hbad
    obtain ⟨q,hq⟩:∃ q,q=wr.heap.size:=⟨_,rfl⟩
    go_wp2_with fail
    try rw [← hq]
    refine forgetW (fun V=>Up U V∧Box V q (stA p) 37) ⟨HU.out.trans Up.go,by rw [hq];exact Box.go⟩ ?_
    clear HU hq c0 c1 c2 c3 hbw
    rintro V ⟨hV,hbx⟩
    obtain ⟨p0,p1,p2,p3⟩:=hbx.c4
    have lp:=hbx.lt
    have HV:=hide hV
    have HSP:=hide (fun W=>HST.out p W)
    clear hbx hV
    by_cases hE:stE p=0
    rotate_left
    · have heb:(stE p != 0)=true:=by simpa using hE
      have HR:=hide (firstN_some (f:=badT bs home d t l) hlt HK.out (by rw [HBD.out];simp [hE]))
      have HSQ:=hide (fun W=>show Gives Tryz.prog 67 #[.agg #[.int .i64 (p.1),.int .i64 (p.2.1),.int .i64 (p.2.2.1),.int .i64 (p.2.2.2)]] W (.int .i64 (stE p)) from HSP.out W)
      obtain ⟨e,he⟩:∃ e,e=stE p:=⟨_,rfl⟩
      rw [← he] at HSQ heb
      clear hE he HSP HBD
      ((first | with_reducible refine wp_region_ext2 (by kernel_rfl) (by kernel_rfl) ?_ | refine wp_region_ext (by kernel_rfl) (by kernel_rfl) ?_);(repeat (go_big_quiet_step ((go_at_call 67;with_reducible exact Gives.inRegion (HSQ.out _)))));refine wpQuiet_nil ?_;intro _ hw';obtain ⟨_,hw''⟩:=hw';subst hw'')
      go_wp2_with fail
      go_ret
      exact ⟨by rw [HR.out];rfl,(HB.out.1.trans HV.out).trans Up.go⟩
    have HSQ:=hide (fun W=>show Gives Tryz.prog 67 #[.agg #[.int .i64 (p.1),.int .i64 (p.2.1),.int .i64 (p.2.2.1),.int .i64 (p.2.2.2)]] W (.int .i64 0) from by rw [← hE];exact HSP.out W)
    have hpok:StOk p:=stateE_zero.1 hE
    by_cases hk0:k=0
    · have HR:=hide (show badT bs home d t l k=false by rw [HBD.out,hE,hk0];rfl)
      have k00:decide ((0:Int)<k)=false:=by simp;omega
      have k01:decide (0<k)=false:=by simp;omega
      subst hk0
      clear HSP HBD hE hpok
      ((first | with_reducible refine wp_region_ext2 (by kernel_rfl) (by kernel_rfl) ?_ | refine wp_region_ext (by kernel_rfl) (by kernel_rfl) ?_);(repeat (go_big_quiet_step ((go_at_call 67;with_reducible exact Gives.inRegion (HSQ.out _)))));refine wpQuiet_nil ?_;intro _ hw';obtain ⟨_,hw''⟩:=hw';subst hw'')
      go_wp2_with fail
      go_roundw
      case rel=>exact ⟨0+1,by omega,by go_num,hide (HV.out.trans Up.go),hide (fun i hi=>by rw [show i=0 by omega];exact HR.out)⟩
      case measure=>simp [intOf];omega
    have k00:decide ((0:Int)<k)=true:=by simp;omega
    have k01:decide (0<k)=true:=by simp;omega
    have e1:((k:Int) - 1).toNat=k - 1:=by omega
    obtain ⟨b',o',s,hbo,hKq,hbq,hs,c0,c1,c2,c3⟩:=(Sts.at (HS.out.up (HB.out.1.trans HV.out))).2.2 (k - 1) (by omega)
    simp at hbo
    obtain ⟨rfl,rfl⟩:=hbo
    have hgs:l.getD (k - 1) (0,0,0,0)=s:=by rw [List.getD,hs];rfl
    have hsE:stE s=0:=by
     have h:=HK.out (k - 1) (by omega)
     unfold badT at h
     rw [hgs] at h
     simp only [Bool.or_eq_false_iff,decide_eq_false_iff_not,ne_eq,Decidable.not_not] at h
     exact h.1
    have hsok:StOk s:=stateE_zero.1 hsE
    have HFO:=hide (fun W (hu:Up V W)=>HF.out W ((HB.out.1.trans HV.out).trans hu) s p hsok hpok (t+k - 1))
    have hbad:badT bs home d t l k=!followsV bs home d (t+k - 1) s p:=by rw [HBD.out,hE,hgs,decide_eq_true (show 0<k by omega)];rfl
    obtain ⟨w0,w1⟩:=(HB.out.2.1.up HV.out).c2
    have lw:=(HB.out.2.1.up HV.out).lt
    obtain ⟨d0,d1,d2,d3,d4⟩:=(HB.out.2.2.up HV.out).c5
    have ld:=(HB.out.2.2.up HV.out).lt
    obtain ⟨FV,hFV⟩:∃ F,F=followsV bs home d (t+k - 1) s p:=⟨_,rfl⟩
    rw [← hFV] at HFO hbad
    have HR:=hide hbad
    clear hFV hbad HSP HBD hE hpok hsok hsE hgs hs hKq HST HF
    rcases FV with _ | _
    · have HR2:=hide (firstN_some (f:=badT bs home d t l) hlt HK.out (by rw [HR.out];rfl))
      ((first | with_reducible refine wp_region_ext2 (by kernel_rfl) (by kernel_rfl) ?_ | refine wp_region_ext (by kernel_rfl) (by kernel_rfl) ?_);(repeat (go_big_quiet_step ((first | (go_at_call 67;with_reducible exact Gives.inRegion (HSQ.out _)) | (go_at_call 68;with_reducible exact Gives.inRegion (HFO.out _ Up.go))))));refine wpQuiet_nil ?_;intro _ hw';obtain ⟨_,hw''⟩:=hw';subst hw'')
      go_wp2_with fail
      go_ret
      exact ⟨by rw [HR2.out];rfl,(HB.out.1.trans HV.out).trans Up.go⟩
    · ((first | with_reducible refine wp_region_ext2 (by kernel_rfl) (by kernel_rfl) ?_ | refine wp_region_ext (by kernel_rfl) (by kernel_rfl) ?_);(repeat (go_big_quiet_step ((first | (go_at_call 67;with_reducible exact Gives.inRegion (HSQ.out _)) | (go_at_call 68;with_reducible exact Gives.inRegion (HFO.out _ Up.go))))));refine wpQuiet_nil ?_;intro _ hw';obtain ⟨_,hw''⟩:=hw';subst hw'')
      go_wp2_with fail
      go_roundw
      case rel=>exact ⟨k+1,by omega,by go_num,hide (HV.out.trans Up.go),hide (fun i hi=>by
       rcases Nat.lt_or_ge i k with h | h
       · exact HK.out i h
       · rw [show i=k by omega,HR.out];rfl)⟩
      case measure=>simp [intOf];omega
  · have hkb:decide ((k:Int)<ln)=false:=by simp;omega
    have hkn:decide (k<ln)=false:=by simp;omega
    obtain rfl:k=ln:=by omega
    have HR:=hide (firstN_none (f:=badT bs home d t l) HK.out)
    go_wp2_with fail
    go_ret
    exact ⟨by rw [HR.out];rfl,(HB.out.1.trans HU.out).trans Up.go⟩
end Go.Proofs.YteafglginnonnaaGreat
