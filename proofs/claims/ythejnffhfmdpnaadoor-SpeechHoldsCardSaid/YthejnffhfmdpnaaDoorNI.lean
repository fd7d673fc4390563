/- Texts of this claim, in one file. -/
import Derived.BigRegion
import Derived.SliceStrings
import Derived.Deep.Strs
import Derived.DataReads
import Derived.ChangeSame
import Derived.Test.YthejnffhfmdpnaaDoorRows
import Derived.Test.YthejnffhfmdpnaaDoorCards
import Derived.Test.YthejnffhfmdpnaaDoorTie
import Derived.SevenTiedAt
import Derived.Lib.LaidIn
import Derived.Deep.DeepHandedRow
import Derived.Deep.DeepWitnessRowRef
import Derived.ProofKit
import Derived.OpenShut
import Derived.Below
import Derived.SizedLaws
import Derived.Test.YthejnffhfmdpnaaDoorNH
section
namespace Go.Proofs.YthejnffhfmdpnaaDoor.Q
open Go.RowKit Go.Proofs.YthejnffhfmdpnaaDoorW.PrintWords Go.Proofs.YthejnffhfmdpnaaDoorW.PrintLast Go.Proofs.YthejnffhfmdpnaaDoorW.PrintMore
set_option linter.unusedVariables false
set_option linter.unusedSimpArgs false
def order.f (k:Nat) (l:List S45) (steps:Int):Option (List Int × Int):=
 if rightB l=false then some ([],1) else if steps < 0 then some ([],1) else (find.f k (l.map strip) (List.replicate l.length false) steps [] 0 []).bind fun r=>if r.1=true then some (r.2.2.2,0) else if r.2.2.1 < 0 then some ([],7) else some ([],8)
def OrdPost (w:World) (r:List Int × Int) (e:Ending) (w':World):Prop:= ∃v,e= .returned (.tuple #[v, .int .i64 r.2])∧Kd.R (Kd.int .i64) 3 w' w.heap.size (fun _=>True) v r.1∧Below w.heap.size w w'
theorem right_len {l:List S45} (h:rightB l=true):l.length≤256:=by
 unfold rightB at h
 rw [Bool.and_eq_true] at h
 exact of_decide_eq_true h.1
set_option maxHeartbeats 8000000 in
set_option maxRecDepth 100000 in
theorem order_calls (k:Nat) (A0:Option Addr) (c0:Nat) (l:List S45) (steps:Int) (r:List Int × Int) (w:World) (hr0:Kd.C k45 w A0 l.length l) (hc0:l.length≤c0) (h:order.f k l steps=some r):
  Calls Tryd.prog 20 #[.slice A0 l.length c0, .int .i64 steps] w (OrdPost w r):=by
 have HR0:=Aside0.mk hr0
 have HC0:=Aside0.mk hc0
 clear hr0 hc0
 unfold order.f at h
 have HRt:=Aside0.mk (rightc_calls A0 c0 l w HR0.out)
 cases hb:rightB l with
 |false=>
  rw [hb] at HRt
  rw [if_pos hb] at h
  obtain rfl:=Option.some.inj h
  clear h
  go_enter Tryd.func20,Tryd.ntmps20
  go_wp2_with (first|(go_at_call 27;(with_reducible refine HRt.out.mono ?_);rintro e w1 ⟨rfl,hb⟩;have HB:=Aside0.mk hb;clear hb))
  go_ret2
  exact ⟨_,rfl,Kd.R_nil _ _ _ _ _,HB.out⟩
 |true=>
  have HLen:=Aside0.mk (right_len hb)
  rw [hb] at HRt
  rw [if_neg (by rw [hb];decide)] at h
  clear hb
  by_cases hs:steps < 0
  ·rw [if_pos hs] at h
   obtain rfl:=Option.some.inj h
   have hsb:decide (steps < 0)=true:=decide_eq_true hs
   clear h hs
   go_enter Tryd.func20,Tryd.ntmps20
   go_wp2_with (first|(go_at_call 27;(with_reducible refine HRt.out.mono ?_);rintro e w1 ⟨rfl,hb⟩;have HB:=Aside0.mk hb;clear hb))
   go_ret2
   exact ⟨_,rfl,Kd.R_nil _ _ _ _ _,HB.out⟩
  ·rw [if_neg hs] at h
   have hsb:decide (steps < 0)=false:=decide_eq_false hs
   clear hs
   obtain ⟨⟨rb,rdn,rl,ro⟩,hf,h⟩:=Option.bind_eq_some_iff.mp h
   have HFn:=Aside0.mk hf
   have HH:=Aside0.mk h
   clear hf h
   go_enter Tryd.func20,Tryd.ntmps20
   go_wp2_with (first|(go_at_call 27;(with_reducible refine HRt.out.mono ?_);rintro e w1 ⟨rfl,hb⟩;have HB:=Aside0.mk hb;clear hb))
   refine start_ (n:=9) (S:=fun w'=>True) (ds:=[]) (TF [0,9]) (by kernel_rfl) rfl rfl trivial (fun hHeld=>?_)
   have n0_:=Aside0.mk (below_drew HB.out)
   clear HB
   have HB:=n0_
   clear n0_
   generalize w1.drew=W1 at HB hHeld ⊢
   apply pu 0 (some 14) [1,8] rfl rfl (by kernel_rfl) (fun _ _ _ h=>h) (by rfl)
   ·intro w';go_simp;with_reducible rfl
   ·simp only [Act.put,List.setIfInBounds_toArray,List.set_cons_zero,List.set_cons_succ,i64_w];rfl
   apply pu 2 (some 16) [1,1,1,6] rfl rfl (by kernel_rfl) (fun _ _ _ h=>h) (by rfl)
   ·intro w';go_simp;with_reducible rfl
   ·simp only [Act.put,List.setIfInBounds_toArray,List.set_cons_zero,List.set_cons_succ,i64_w];rfl
   apply pu 3 (some 17) [1,1,2,5] rfl rfl (by kernel_rfl) (fun _ _ _ h=>h) (by rfl)
   ·intro w';go_simp;with_reducible rfl
   ·simp only [Act.put,List.setIfInBounds_toArray,List.set_cons_zero,List.set_cons_succ,i64_w];rfl
   apply pu 5 (some 19) [1,1,2,1,1,3] rfl rfl (by kernel_rfl) (fun _ _ _ h=>h) (by rfl)
   ·intro w';go_simp;with_reducible rfl
   ·simp only [Act.put,List.setIfInBounds_toArray,List.set_cons_zero,List.set_cons_succ,i64_w];rfl
   refine join_ (σ:=(Option Addr × Nat) × Value) 3 (TF [6,3]) (fun s_=>[(15, .slice s_.1.1 l.length s_.1.2),(18,s_.2)]) (fun s_ w'=>Below w.heap.size w w'∧CRow w w' (.slice s_.1.1 l.length s_.1.2) (l.map strip)∧l.length≤s_.1.2∧Kd.R Kd.bool 4 w' w.heap.size (fun _=>True) s_.2 (List.replicate l.length false)) ?_ ?_
   rotate_left
   ·intro hCont
    refine two_ (i:=1) (j:=4) (Ni:=some 15) (Nj:=some 18) (TF [4,1,1,3]) (TF [1,1,4,3]) rfl rfl rfl rfl (by kernel_rfl) (by decide) (by decide) (fun K hK=>?_) (fun K hK=>?_)
    ·skip
     refine goes_ Tryd.func36 (by kernel_rfl) rfl #[.slice A0 l.length c0] (by rfl) rfl rfl (by simp only [List.map_toArray,List.map_cons,List.map_nil];rfl) ?_
     with_reducible refine (efree_calls A0 c0 l w _ HR0.out HB.out (by have:=HLen.out;omega)).mono ?_
     rintro e W2 ⟨Ac,cc,rfl,hc,hC,hb⟩
     refine ⟨_,rfl,?_⟩
     have n0_:=Aside0.mk (below_step HB.out hb)
     have n1_:=Aside0.mk (hC)
     have n2_:=Aside0.mk (hc)
     (try clear HB)
     (try clear GC)
     (try clear GL)
     have HB:=n0_
     have GC:=n1_
     have GL:=n2_
     clear n0_ n1_ n2_
     clear hb hc hC
     refine hK.out _ _ trivial (fun hHeld=>?_)
     clear hK K
     refine norm_ (a':=?_) ?_ ?_
     rotate_left
     ·show Act.put _ (some 15) _=_
      simp only [Act.put,List.setIfInBounds_toArray,List.set_cons_zero,List.set_cons_succ,i64_w]
      rfl
     refine one_ (i:=4) (N:=some 18) (TF [6,3]) rfl rfl (by kernel_rfl) (by decide) (fun K hK=>?_)
     refine Kd.R_make_step Kd.bool (w0:=w) w.heap.size 4 ?hw (N:=18) ?hd 56 (.tmp 17) (.tmp 17) ?ho (l.length:Int) ?hx ?hy Tryd.underlying56 (.bool false) 1 ?hi ?hz (by decide) (by decide) false (ok:=fun _=>True) (okp:=fun _=>True) ?hm (fun _ _=>trivial) trivial (by omega) ?hl HB.out HB.out.size ?_;(case hd=>rfl);(case ho=>rfl);(case hw=>first|(go_simp;done)|(go_simp;rfl));(case hx=>rfl);(case hy=>rfl);(case hi=>kernel_rfl);(case hz=>rfl);(case hm=>rfl);(case hl=>have:=HLen.out;rw [Int.toNat_natCast];omega)
     intro v1 W3 g1 hb hg hnew_
     rw [Int.toNat_natCast] at g1
     have n0_:=Aside0.mk (hb)
     have n1_:=Aside0.mk (g1)
     have n2_:=Aside0.mk (GC.out.below (below_grown hg))
     (try clear HB)
     (try clear G1)
     (try clear GC)
     have HB:=n0_
     have G1:=n1_
     have GC:=n2_
     clear n0_ n1_ n2_
     clear g1 hb hg hnew_
     refine hK.out _ _ trivial (fun hHeld=>?_)
     clear hK K
     refine norm_ (a':=?_) ?_ ?_
     rotate_left
     ·show Act.put _ (some 18) _=_
      simp only [Act.put,List.setIfInBounds_toArray,List.set_cons_zero,List.set_cons_succ,i64_w]
      rfl
     exact norm_ (by simp only [putAll,Act.put,List.setIfInBounds_toArray,List.set_cons_zero,List.set_cons_succ]) (hCont ((Ac,cc),v1) _ ⟨HB.out,GC.out,GL.out,G1.out⟩)
    ·skip
     refine Kd.R_make_step Kd.bool (w0:=w) w.heap.size 4 ?hw (N:=18) ?hd 56 (.tmp 17) (.tmp 17) ?ho (l.length:Int) ?hx ?hy Tryd.underlying56 (.bool false) 1 ?hi ?hz (by decide) (by decide) false (ok:=fun _=>True) (okp:=fun _=>True) ?hm (fun _ _=>trivial) trivial (by omega) ?hl HB.out HB.out.size ?_;(case hd=>rfl);(case ho=>rfl);(case hw=>first|(go_simp;done)|(go_simp;rfl));(case hx=>rfl);(case hy=>rfl);(case hi=>kernel_rfl);(case hz=>rfl);(case hm=>rfl);(case hl=>have:=HLen.out;rw [Int.toNat_natCast];omega)
     intro v1 W2 g1 hb hg hnew_
     rw [Int.toNat_natCast] at g1
     have n0_:=Aside0.mk (hb)
     have n1_:=Aside0.mk (g1)
     (try clear HB)
     (try clear G1)
     have HB:=n0_
     have G1:=n1_
     clear n0_ n1_
     clear g1 hb hg hnew_
     refine hK.out _ _ trivial (fun hHeld=>?_)
     clear hK K
     refine norm_ (a':=?_) ?_ ?_
     rotate_left
     ·show Act.put _ (some 18) _=_
      simp only [Act.put,List.setIfInBounds_toArray,List.set_cons_zero,List.set_cons_succ,i64_w]
      rfl
     refine one_ (i:=1) (N:=some 15) (TF [6,3]) rfl rfl (by kernel_rfl) (by decide) (fun K hK=>?_)
     refine goes_ Tryd.func36 (by kernel_rfl) rfl #[.slice A0 l.length c0] (by rfl) rfl rfl (by simp only [List.map_toArray,List.map_cons,List.map_nil];rfl) ?_
     with_reducible refine (efree_calls A0 c0 l w _ HR0.out HB.out (by have:=HLen.out;omega)).mono ?_
     rintro e W3 ⟨Ac,cc,rfl,hc,hC,hb⟩
     refine ⟨_,rfl,?_⟩
     have n0_:=Aside0.mk (below_step HB.out hb)
     have n1_:=Aside0.mk (hC)
     have n2_:=Aside0.mk (hc)
     have n3_:=Aside0.mk (Kd.R_below G1.out hb)
     (try clear HB)
     (try clear GC)
     (try clear GL)
     (try clear G1)
     have HB:=n0_
     have GC:=n1_
     have GL:=n2_
     have G1:=n3_
     clear n0_ n1_ n2_ n3_
     clear hb hc hC
     refine hK.out _ _ trivial (fun hHeld=>?_)
     clear hK K
     refine norm_ (a':=?_) ?_ ?_
     rotate_left
     ·show Act.put _ (some 15) _=_
      simp only [Act.put,List.setIfInBounds_toArray,List.set_cons_zero,List.set_cons_succ,i64_w]
      rfl
     exact norm_ (by simp only [putAll,Act.put,List.setIfInBounds_toArray,List.set_cons_zero,List.set_cons_succ]) (hCont ((Ac,cc),v1) _ ⟨HB.out,GC.out,GL.out,G1.out⟩)
   rintro ⟨⟨Ac,cc⟩,v1⟩ W5 ⟨hb,gc,gl,g1⟩
   have n0_:=Aside0.mk (hb)
   have n1_:=Aside0.mk (gc)
   have n2_:=Aside0.mk (gl)
   (try clear HB)
   (try clear GC)
   (try clear GL)
   have HB:=n0_
   have GC:=n1_
   have GL:=n2_
   clear n0_ n1_ n2_
   clear hb gc gl
   have hHeld:True:=trivial
   obtain ⟨Ab,cb,eb⟩:=Kd.R_slice g1
   rw [List.length_replicate] at eb
   subst eb
   have G1:=Aside0.mk g1
   clear g1
   refine norm_ (a':=?_) ?_ ?_
   rotate_left
   ·simp only [putAll,Act.put,List.setIfInBounds_toArray,List.set_cons_zero,List.set_cons_succ]
    rfl
   apply pu 6 (some 20) [7,2] rfl rfl (by kernel_rfl) (fun _ _ _ h=>h) (by rfl)
   ·intro w';go_simp;with_reducible rfl
   ·simp only [Act.put,List.setIfInBounds_toArray,List.set_cons_zero,List.set_cons_succ,i64_w];rfl
   refine one_ (i:=7) (N:=some 21) (TF [8,1]) rfl rfl (by kernel_rfl) (by decide) (fun K hK=>?_)
   refine value_ (w1:=?_) (v:=?_) (by rfl) rfl ?_ ?_
   rotate_left 2
   ·go_simp
    constructor
    ·rfl
    ·rfl
   refine hK.out _ _ trivial (fun hHeld=>?_)
   clear hK K
   refine norm_ (a':=?_) ?_ ?_
   rotate_left
   ·show Act.put _ (some 21) _=_
    simp only [Act.put,List.setIfInBounds_toArray,List.set_cons_zero,List.set_cons_succ,i64_w]
    rfl
   apply pu 8 (some 6) [9] rfl rfl (by kernel_rfl) (fun _ _ _ h=>h) (by rfl)
   ·intro w';go_simp;with_reducible rfl
   ·simp only [Act.put,List.setIfInBounds_toArray,List.set_cons_zero,List.set_cons_succ,i64_w];rfl
   refine done_ (by kernel_rfl) ?_
   obtain ⟨l2,hl2⟩: ∃l2:List S45,l2=l.map strip:=⟨_,rfl⟩
   have e2:l.length=l2.length:=by rw [hl2,List.length_map]
   have HF:=Aside0.mk (show Fnd w W5.heap.size Ac cc l2 (.slice Ab l2.length cb) (List.replicate l2.length false) (steps) (.slice none 0 0) [] (W5.alloc (.cells #[.slice Ac l2.length cc, .slice Ab l2.length cb, .int .i64 (steps), .slice none 0 0] 76)) from ⟨blk_new _ _,by rw [← e2,hl2];exact GC.out.below (below_alloc (Below.refl _ _) _),by rw [← e2];exact GL.out,below_alloc HB.out _,HB.out.size,by rw [← e2];exact Kd.R_below G1.out (below_alloc (Below.refl _ _) _),Kd.R_nil _ _ _ _ _,by simp⟩)
   rw [e2]
   have HL2:=Aside0.mk hl2
   clear hl2 GC GL G1 HB
   generalize W5.alloc (.cells #[.slice Ac l2.length cc, .slice Ab l2.length cb, .int .i64 (steps), .slice none 0 0] 76)=W8 at HF ⊢
   generalize W5.heap.size=g at HF ⊢
   have HFI:=Aside0.mk (HFn.out)
   rw [← HL2.out,show l.length=l2.length by rw [HL2.out,List.length_map]] at HFI
   clear HFn
   have HFC:=Aside0.mk (find_calls k w g Ac cc l2 Ab cb (List.replicate l2.length false) steps (.slice none 0 0) [] 0 none 0 [] (rb,rdn,rl,ro) W8 HFI.out HF.out (Kd.R_nil _ _ _ _ _))
   rw [show ([]:List ByteArray).length=0 from rfl] at HFC
   have h:=HH.out
   clear HH
   cases rb with
   |true=>
    rw [if_pos rfl] at h
    obtain rfl:=Option.some.inj h
    clear h
    go_wp2_with (first|(go_at_call 37;(with_reducible refine HFC.out.mono ?_);rintro e w9 ⟨v3,rfl,hF,hK,hv⟩;have HF9:=Aside0.mk hF;obtain ⟨g0,g1,g2,g3⟩:=hF.cells;clear hF hK hv))
    go_ret2
    exact ⟨_,rfl,HF9.out.2.2.2.2.2.2.1,HF9.out.2.2.2.1⟩
   |false=>
    rw [if_neg (by decide)] at h
    by_cases hr:rl < 0
    ·rw [if_pos hr] at h
     obtain rfl:=Option.some.inj h
     have hrb:decide (rl < 0)=true:=decide_eq_true hr
     clear h hr
     go_wp2_with (first|(go_at_call 37;(with_reducible refine HFC.out.mono ?_);rintro e w9 ⟨v3,rfl,hF,hK,hv⟩;have HF9:=Aside0.mk hF;obtain ⟨g0,g1,g2,g3⟩:=hF.cells;clear hF hK hv))
     go_ret2
     exact ⟨_,rfl,Kd.R_nil _ _ _ _ _,HF9.out.2.2.2.1⟩
    ·rw [if_neg hr] at h
     obtain rfl:=Option.some.inj h
     have hrb:decide (rl < 0)=false:=decide_eq_false hr
     clear h hr
     go_wp2_with (first|(go_at_call 37;(with_reducible refine HFC.out.mono ?_);rintro e w9 ⟨v3,rfl,hF,hK,hv⟩;have HF9:=Aside0.mk hF;obtain ⟨g0,g1,g2,g3⟩:=hF.cells;clear hF hK hv))
     go_ret2
     exact ⟨_,rfl,Kd.R_nil _ _ _ _ _,HF9.out.2.2.2.1⟩
end Go.Proofs.YthejnffhfmdpnaaDoor.Q

end

section
namespace Go.Proofs.YthejnffhfmdpnaaDoor.Q
open Go.RowKit Go.Proofs.YthejnffhfmdpnaaDoorW.PrintWords Go.Proofs.YthejnffhfmdpnaaDoorW.PrintLast Go.Proofs.YthejnffhfmdpnaaDoorW.PrintMore
set_option linter.unusedVariables false
set_option linter.unusedSimpArgs false
def exF:List S66:=[⟨⟨#[97]⟩,0,⟨#[120]⟩⟩]
def exL:List S45:=[⟨1,2,⟨1,0,exF⟩,⟨0,0,0,[],[]⟩⟩,⟨3,4,⟨2,0,[]⟩,⟨0,0,0,exF,[]⟩⟩]
theorem C_lit {α:Type} {d:Kd α} {W:World} {g t:Nat} {arr:Array Value} {xs:List α} (hb:W.heap[g]? =some (.cells arr t (0,0))) (hm:xs.length≤9223372036854775807) (h: ∀(j:Nat) (p:α),xs[j]? =some p→ ∃c:List Value,c.length=d.sz∧d.K W p c∧ ∀(i:Nat) (u:Value),c[i]? =some u→arr[j*d.sz+i]? =some u):d.C W (some ⟨g,0,none⟩) xs.length xs:=
 ⟨rfl,hm,fun _=>⟨_,rfl,fun j p hj=>by
  obtain ⟨c,hl,hk,hc⟩:=h j p hj
  exact ⟨c,hl,hk,fun i u hu=>by rw [addz,blk_cell hb];exact hc i u hu⟩⟩⟩
theorem C_none {α:Type} (d:Kd α) (W:World):d.C W none 0 ([]:List α):=⟨rfl,(show 0≤9223372036854775807 by decide),fun h=>absurd h (Nat.lt_irrefl 0)⟩
theorem ten {a0 a1 a2 a3 a4 a5 a6 a7 a8 a9:Value} {arr:Array Value} {q:Nat} (h0:arr[q]? =some a0) (h1:arr[q+1]? =some a1) (h2:arr[q+2]? =some a2) (h3:arr[q+3]? =some a3) (h4:arr[q+4]? =some a4) (h5:arr[q+5]? =some a5) (h6:arr[q+6]? =some a6) (h7:arr[q+7]? =some a7) (h8:arr[q+8]? =some a8) (h9:arr[q+9]? =some a9) (i:Nat) (u:Value) (h: [a0,a1,a2,a3,a4,a5,a6,a7,a8,a9][i]? =some u):arr[q+i]? =some u:=by
 match i,h with
 |0,h=>exact h0.trans h
 |1,h=>exact h1.trans h
 |2,h=>exact h2.trans h
 |3,h=>exact h3.trans h
 |4,h=>exact h4.trans h
 |5,h=>exact h5.trans h
 |6,h=>exact h6.trans h
 |7,h=>exact h7.trans h
 |8,h=>exact h8.trans h
 |9,h=>exact h9.trans h
 |_+10,h=>simp at h
theorem exL_C (w:World):Kd.C k45 ((w.alloc (.cells #[.string ⟨#[97]⟩, .int .i64 0, .string ⟨#[120]⟩] 66)).alloc (.cells #[.int .i64 1, .int .i64 2, .int .i64 1, .int .i64 0, .slice (some ⟨w.heap.size,0,none⟩) 1 1, .int .i64 0, .int .i64 0, .int .i64 0, .slice none 0 0, .slice none 0 0, .int .i64 3, .int .i64 4, .int .i64 2, .int .i64 0, .slice none 0 0, .int .i64 0, .int .i64 0, .int .i64 0, .slice (some ⟨w.heap.size,0,none⟩) 1 1, .slice none 0 0] 45)) (some ⟨w.heap.size+1,0,none⟩) 2 exL:=by
 have h1:((w.alloc (.cells #[.string ⟨#[97]⟩, .int .i64 0, .string ⟨#[120]⟩] 66)).alloc (.cells #[.int .i64 1, .int .i64 2, .int .i64 1, .int .i64 0, .slice (some ⟨w.heap.size,0,none⟩) 1 1, .int .i64 0, .int .i64 0, .int .i64 0, .slice none 0 0, .slice none 0 0, .int .i64 3, .int .i64 4, .int .i64 2, .int .i64 0, .slice none 0 0, .int .i64 0, .int .i64 0, .int .i64 0, .slice (some ⟨w.heap.size,0,none⟩) 1 1, .slice none 0 0] 45)).heap[w.heap.size]? =some (.cells #[.string ⟨#[97]⟩, .int .i64 0, .string ⟨#[120]⟩] 66 (0,0)):=blk_alloc (blk_new _ _) _
 have h2:((w.alloc (.cells #[.string ⟨#[97]⟩, .int .i64 0, .string ⟨#[120]⟩] 66)).alloc (.cells #[.int .i64 1, .int .i64 2, .int .i64 1, .int .i64 0, .slice (some ⟨w.heap.size,0,none⟩) 1 1, .int .i64 0, .int .i64 0, .int .i64 0, .slice none 0 0, .slice none 0 0, .int .i64 3, .int .i64 4, .int .i64 2, .int .i64 0, .slice none 0 0, .int .i64 0, .int .i64 0, .int .i64 0, .slice (some ⟨w.heap.size,0,none⟩) 1 1, .slice none 0 0] 45)).heap[w.heap.size+1]? =some (.cells #[.int .i64 1, .int .i64 2, .int .i64 1, .int .i64 0, .slice (some ⟨w.heap.size,0,none⟩) 1 1, .int .i64 0, .int .i64 0, .int .i64 0, .slice none 0 0, .slice none 0 0, .int .i64 3, .int .i64 4, .int .i64 2, .int .i64 0, .slice none 0 0, .int .i64 0, .int .i64 0, .int .i64 0, .slice (some ⟨w.heap.size,0,none⟩) 1 1, .slice none 0 0] 45 (0,0)):=by
  have:=blk_new (w.alloc (.cells #[.string ⟨#[97]⟩, .int .i64 0, .string ⟨#[120]⟩] 66)) (.cells #[.int .i64 1, .int .i64 2, .int .i64 1, .int .i64 0, .slice (some ⟨w.heap.size,0,none⟩) 1 1, .int .i64 0, .int .i64 0, .int .i64 0, .slice none 0 0, .slice none 0 0, .int .i64 3, .int .i64 4, .int .i64 2, .int .i64 0, .slice none 0 0, .int .i64 0, .int .i64 0, .int .i64 0, .slice (some ⟨w.heap.size,0,none⟩) 1 1, .slice none 0 0] 45)
  rw [show (w.alloc (.cells #[.string ⟨#[97]⟩, .int .i64 0, .string ⟨#[120]⟩] 66)).heap.size=w.heap.size+1 by simp] at this
  exact this
 have hF:Kd.C k66 ((w.alloc (.cells #[.string ⟨#[97]⟩, .int .i64 0, .string ⟨#[120]⟩] 66)).alloc (.cells #[.int .i64 1, .int .i64 2, .int .i64 1, .int .i64 0, .slice (some ⟨w.heap.size,0,none⟩) 1 1, .int .i64 0, .int .i64 0, .int .i64 0, .slice none 0 0, .slice none 0 0, .int .i64 3, .int .i64 4, .int .i64 2, .int .i64 0, .slice none 0 0, .int .i64 0, .int .i64 0, .int .i64 0, .slice (some ⟨w.heap.size,0,none⟩) 1 1, .slice none 0 0] 45)) (some ⟨w.heap.size,0,none⟩) exF.length exF:=C_lit h1 (by decide) (fun j p hj=>by
  match j,hj with
  |0,hj=>
   obtain rfl:=Option.some.inj hj
   refine ⟨_,rfl,k66_mk _ _,fun i u hu=>?_⟩
   match i,hu with
   |0,hu=>exact hu
   |1,hu=>exact hu
   |2,hu=>exact hu
   |_+3,hu=>simp at hu
  |_+1,hj=>simp [exF] at hj)
 refine C_lit (xs:=exL) h2 (by decide) (fun j p hj=>?_)
 match j,hj with
 |0,hj=>
  obtain rfl:=Option.some.inj hj
  exact ⟨_,rfl,k45_mk _ _ (A4:=some ⟨w.heap.size,0,none⟩) (c4:=1) (Nat.le_refl _) hF (A8:=none) (c8:=0) (Nat.le_refl _) (C_none _ _) (A9:=none) (c9:=0) (Nat.le_refl _) (C_none _ _),ten rfl rfl rfl rfl rfl rfl rfl rfl rfl rfl⟩
 |1,hj=>
  obtain rfl:=Option.some.inj hj
  exact ⟨_,rfl,k45_mk _ _ (A4:=none) (c4:=0) (Nat.le_refl _) (C_none _ _) (A8:=some ⟨w.heap.size,0,none⟩) (c8:=1) (Nat.le_refl _) hF (A9:=none) (c9:=0) (Nat.le_refl _) (C_none _ _),ten rfl rfl rfl rfl rfl rfl rfl rfl rfl rfl⟩
 |_+2,hj=>simp [exL] at hj
set_option maxHeartbeats 8000000 in
set_option maxRecDepth 100000 in
theorem awake_calls (k:Nat) (w:World) (h:order.f k exL 100=some ([0,1],0)):
  Calls Tryd.prog 14 #[] w fun e w'=>e= .returned (.bool true)∧Below w.heap.size w w':=by
 go_enter Tryd.func14,Tryd.ntmps14
 have HO:=Aside0.mk (order_calls k (some ⟨w.heap.size+1,0,none⟩) 2 exL 100 ([0,1],0) _ (exL_C w) (Nat.le_refl _) h)
 rw [show exL.length=2 from rfl] at HO
 clear h
 go_wp2_with (first|(go_at_call 20;(with_reducible refine HO.out.mono ?_);rintro e w9 ⟨v,rfl,ho,hb⟩;have HB:=Aside0.mk (below_step (below_alloc (below_alloc (Below.refl w.heap.size w) _) _) hb);obtain ⟨A3,c3,rfl⟩:=Kd.R_slice ho;obtain ⟨ad,ead,y0⟩:=Kd.at_int (Kd.R_reads' ho).2.2 (0:Int) (by decide) (by decide);cases ead;obtain ⟨ad1,ead1,y1⟩:=Kd.at_int (Kd.R_reads' ho).2.2 (1:Int) (by decide) (by decide);cases ead1;have z0:w9.cell? ad=some (.int .i64 0):=(by have h_:=y0;rw [show (Int.toNat 0)=0 from rfl,Addr.add_zero'] at h_;exact h_);have z1:w9.cell? ⟨ad.block,ad.off+1,none⟩=some (.int .i64 1):=(by have h_:=y1;rw [show (Int.toNat 1)=1 from rfl] at h_;simpa [Addr.add,rd] using h_);clear ho hb y0 y1))
 go_ret
 exact ⟨rfl,HB.out⟩
end Go.Proofs.YthejnffhfmdpnaaDoor.Q

end

section
namespace Go.Proofs.YthejnffhfmdpnaaDoor.Spec
set_option linter.unusedVariables false
open Go.RowKit Go.Proofs.YthejnffhfmdpnaaDoor.Q Go.Proofs.YthejnffhfmdpnaaDoorW.PrintWords Go.Proofs.YthejnffhfmdpnaaDoorW.PrintLast Go.Proofs.YthejnffhfmdpnaaDoorW.PrintMore
theorem codeSame (k:Nat) (e g f:Int) (l:List S66) (m:List ByteArray) (e' g' f':Int) (l':List S66) (m':List ByteArray) (hl:l.length < 1000000) (hk:l.length+1≤k):speech_same.f k e g f l m e' g' f' l' m'=some (sameB e g f l e' g' f' l'):=rfl
def exI:ByteArray:=⟨#[1,1,97,0,1,120]⟩
theorem exOf:ofP exF=(exI,0):=by decide+kernel
theorem exTree:treeP exI=(exF,0):=by decide+kernel
theorem wk {n m:Int} (h:n=m) (h0: -9223372036854775808≤m) (h1:m < 9223372036854775808):wrap64 n=m:=by rw [h,w64 h0 h1]
theorem exDo1:doP 0 [] 1 0 exF=(0,[exI],0,0,0,[],[]):=by
 unfold doP
 rw [if_pos rfl,exOf,if_pos rfl,wk (m:=0) (by decide) (by decide) (by decide),if_neg (by decide)]
 rfl
theorem exDo2:doP 0 [exI] 2 0 []=(0,[exI],0,0,0,exF,[]):=by
 unfold doP
 rw [if_neg (by decide),if_pos rfl]
 unfold restoreP
 rw [wk (m:=0) (n:=(([exI]:List ByteArray).length:Int) - 1) (by decide) (by decide) (by decide),if_neg (by decide),if_neg (by decide),show rdOf ByteArray.empty [exI] 0=exI from rfl,exTree]
theorem exOver0:overB exL [false,false]=false:=by decide+kernel
theorem exOver1:overB exL [true,false]=false:=by decide+kernel
theorem exOver2:overB exL [true,true]=true:=by decide+kernel
theorem exFree0:freeB exL [false,false] 0=true:=by decide+kernel
theorem exFree1:freeB exL [true,false] 1=true:=by decide+kernel
theorem exRight:rightB exL=true:=by decide+kernel
theorem exFind2 (k:Nat) (left:Int) (tr:List ByteArray):find.f (k+1) exL [true,true] left [0,1] 0 tr=some (true,[true,true],left,[0,1]):=by
 rw [find.f,exOver2,if_pos rfl]
theorem exFind1 (k:Nat) (hk:6000≤k):find.f (k+4) exL [true,false] 99 [0] 0 [exI]=some (true,[true,true],98,[0,1]):=by
 rw [find.f,exOver1,if_neg (by decide),wk (n:=99 - 1) (m:=98) (by decide) (by decide) (by decide),if_neg (by decide),find.l0,if_pos (by decide),if_pos (by decide),find.l0,if_pos (by decide),if_neg (by decide),exFree1,if_neg (by decide)]
 have hx:rd_T45 exL (((0+1:Nat)):Int)=⟨3,4,⟨2,0,[]⟩,⟨0,0,0,exF,[]⟩⟩:=rfl
 rw [hx]
 dsimp only
 rw [codeDo (k+1) 0 [exI] 2 0 [] (by decide) (by decide) (by omega),exDo2]
 simp only [Option.bind_some]
 unfold takeF
 rw [if_neg (by decide)]
 dsimp only
 rw [codeSame (k+1) 0 0 0 exF [] 0 0 0 exF [] (by decide) (by show 1+1≤k+1;omega)]
 simp only [Option.bind_some]
 rw [if_neg (by decide+kernel),if_pos (by decide)]
 have:=exFind2 k 98 [exI]
 rw [show ([true,false]:List Bool).set (0+1) true= [true,true] from rfl,show ([0]:List Int)++[((0+1:Nat):Int)]= [0,1] from rfl,this]
 rfl
theorem exFind0 (k:Nat) (hk:6000≤k):find.f (k+7) exL [false,false] 100 [] 0 []=some (true,[true,true],98,[0,1]):=by
 rw [find.f,exOver0,if_neg (by decide),wk (n:=100 - 1) (m:=99) (by decide) (by decide) (by decide),if_neg (by decide),find.l0,if_pos (by decide),if_neg (by decide),exFree0,if_neg (by decide)]
 have hx:rd_T45 exL ((0:Nat):Int)=⟨1,2,⟨1,0,exF⟩,⟨0,0,0,[],[]⟩⟩:=rfl
 rw [hx]
 dsimp only
 rw [codeDo (k+5) 0 [] 1 0 exF (by decide) (by decide) (by omega),exDo1]
 simp only [Option.bind_some]
 unfold takeF
 rw [if_neg (by decide)]
 dsimp only
 rw [codeSame (k+5) 0 0 0 [] [] 0 0 0 [] [] (by decide) (by show 0+1≤k+5;omega)]
 simp only [Option.bind_some]
 rw [if_neg (by decide+kernel),if_pos (by decide)]
 rw [show ([false,false]:List Bool).set 0 true= [true,false] from rfl,show ([]:List Int)++[((0:Nat):Int)]= [0] from rfl,show k+5=(k+1)+4 by omega,exFind1 (k+1) (by omega)]
 rfl
theorem exOrder (k:Nat) (hk:6100≤k):order.f k exL 100=some ([0,1],0):=by
 obtain ⟨k,rfl⟩: ∃m,k=m+7:=⟨k - 7,by omega⟩
 unfold order.f
 rw [if_neg (by rw [exRight];decide),if_neg (by decide),show exL.map strip=exL from rfl,show List.replicate exL.length false= [false,false] from rfl,exFind0 k (by omega)]
 rfl
theorem awake (w:World):Calls Tryd.prog 14 #[] w fun e w'=>e= .returned (.bool true)∧Below w.heap.size w w':=awake_calls 7000 w (exOrder 7000 (by omega))
end Go.Proofs.YthejnffhfmdpnaaDoor.Spec

end

section
namespace Go.Proofs.YthejnffhfmdpnaaDoor.Q
open Go.RowKit Go.Proofs.YthejnffhfmdpnaaDoor.Spec Go.Proofs.YthejnffhfmdpnaaDoorW.PrintWords Go.Proofs.YthejnffhfmdpnaaDoorW.PrintLast Go.Proofs.YthejnffhfmdpnaaDoorW.PrintMore
set_option linter.unusedVariables false
set_option linter.unusedSimpArgs false
theorem EvRow.C {w W:World} {v:Value} {xs:List S45} (h:EvRow w W v xs): ∃A c,v= .slice A xs.length c∧xs.length≤c∧Kd.C k45 W A xs.length xs:=by
 obtain ⟨hB,raws,hl,hR,hE⟩:=h
 obtain ⟨A,c,rfl,hc,hm⟩:=Kd.R_reads hR
 refine ⟨A,c,by rw [hl],by omega,rfl,?_,?_⟩
 ·have:=hm.2.1;omega
 ·intro hn
  obtain ⟨ad,e,h⟩:=hm.2.2 (by omega)
  refine ⟨ad,e,fun j p hj=>?_⟩
  have hj2:j < raws.length:=by rw [hl];exact (List.getElem?_eq_some_iff.1 hj).1
  obtain ⟨c',hc',hk,hg⟩:=h j raws[j] (List.getElem?_eq_getElem hj2)
  obtain ⟨rfl,_⟩:=hk
  exact ⟨raws[j],hc',(hE j p raws[j] hj (List.getElem?_eq_getElem hj2)).K hB,hg⟩
theorem few_len (l:List S66):(fewB l).length≤8:=by
 unfold fewB
 rw [List.length_map,List.length_take]
 omega
theorem small_short (l:List S45) (n:Int):Small (shortB l n):=by
 intro x hx
 unfold shortB at hx
 obtain ⟨y,_,rfl⟩:=List.mem_map.1 hx
 exact Nat.le_trans (few_len _) (by decide)
set_option maxHeartbeats 8000000 in
set_option maxRecDepth 100000 in
theorem mholds_calls (A0:Option Addr) (c0:Nat) (l:List S45) (A1:Option Addr) (c1:Nat) (order:List Int) (w:World) (hr0:Kd.C k45 w A0 l.length l) (hr1:Kd.C (Kd.int .i64) w A1 order.length order):
  Calls Tryd.prog 10 #[.slice A0 l.length c0, .slice A1 order.length c1] w fun e w'=>e= .returned (.bool true)∧Below w.heap.size w w':=by
 have HR0:=Aside0.mk hr0
 have HR1:=Aside0.mk hr1
 clear hr0 hr1
 obtain ⟨s,hs⟩: ∃s,s=shortB l 12:=⟨_,rfl⟩
 have HSh:=Aside0.mk (short_calls A0 c0 l 12 (by decide) w HR0.out)
 have HSm:=Aside0.mk (small_short l 12)
 rw [← hs] at HSh HSm
 clear hs
 go_enter Tryd.func10,Tryd.ntmps10
 go_wp2_with (first|(go_at_call 11;(with_reducible refine HSh.out.mono ?_);rintro e w1 ⟨v,rfl,hv⟩;obtain ⟨As,cs,rfl,hcs,hC⟩:=hv.C;have HB:=Aside0.mk hv.1;have HC:=Aside0.mk hC;have HCu:=HC;have H1:=Aside0.mk (holds26_calls As cs s A1 c1 order w1 hC (Kd.C_below HR1.out hv.1) HSm.out);clear hv hcs hC)|(go_at_call 26;(with_reducible refine H1.out.mono ?_);rintro e w2 ⟨rfl,hb⟩;replace HB:=Aside0.mk (below_step HB.out hb);replace HC:=Aside0.mk (Kd.C_below HC.out hb);have H2:=Aside0.mk (holds13_calls As cs s A1 c1 order w2 HC.out (Kd.C_below HR1.out HB.out) HSm.out);clear hb)|(go_at_call 13;(with_reducible refine H2.out.mono ?_);rintro e w3 ⟨rfl,hb⟩;replace HB:=Aside0.mk (below_step HB.out hb);replace HC:=Aside0.mk (Kd.C_below HC.out hb);have H3:=Aside0.mk (rightc_calls As cs s w3 HC.out);have hbb:(holdsB s order == holdsB s order)=true:=beq_self_eq_true _;clear hb)|(go_at_call 27;(with_reducible refine H3.out.mono ?_);rintro e w4 ⟨rfl,hb⟩;replace HB:=Aside0.mk (below_step HB.out hb);replace HC:=Aside0.mk (Kd.C_below HC.out hb);have H4:=Aside0.mk (rightl_calls As cs s w4 HC.out);clear hb)|(go_at_call 21;(with_reducible refine H4.out.mono ?_);rintro e w5 ⟨rfl,hb⟩;replace HB:=Aside0.mk (below_step HB.out hb);have hbc:(rightB s == rightB s)=true:=beq_self_eq_true _;clear hb)|(go_at_call 14;(with_reducible refine (awake _).mono ?_);rintro e w6 ⟨rfl,hb⟩;replace HB:=Aside0.mk (below_step HB.out hb);clear hb))
 go_ret
 exact ⟨rfl,HB.out⟩
end Go.Proofs.YthejnffhfmdpnaaDoor.Q

end

section
namespace Go.Proofs.YthejnffhfmdpnaaDoor.Q
open Go.RowKit Go.Proofs.YthejnffhfmdpnaaDoorW.PrintWords Go.Proofs.YthejnffhfmdpnaaDoorW.PrintLast Go.Proofs.YthejnffhfmdpnaaDoorW.PrintMore
open Go.ChangeShapes Go.WideShapes
set_option linter.unusedVariables false
section
variable {H:Type} {enc:TypeId × Value→H} {w:World} {base:Nat} {spare:Nat→Bool} {held:Bool}
theorem trod_row {α:Type} (d:Kd α) {t e:TypeId} (ht:Tryd.prog.underlying t=some (.slice e)) (hsz:Tryd.prog.cellsOf e=d.sz) (hel: ∀fuel cs x,DataW.trod enc Tryd.prog w base spare held fuel e cs=some x→ ∃y:α,d.K w y cs) {fuel:Nat} {cs:List Value} {x:DataW H × List MemPlace} (h:DataW.trod enc Tryd.prog w base spare held fuel t cs=some x):
  ∃(A:Option Addr) (l:List α) (c:Nat),cs= [.slice A l.length c]∧l.length≤c∧Kd.C d w A l.length l:=by
 rcases DataW.trod_slice ht h with ⟨hcs,_⟩|⟨a,len,cap,elems,rest,n,_,hcs,_,hb,hl,hm,hlen,he,_,_⟩
 ·exact ⟨none,[],0,hcs,Nat.le_refl _,rfl,(show 0≤9223372036854775807 by decide),fun h=>absurd h (Nat.lt_irrefl 0)⟩
 ·have H: ∀j:Fin len, ∃y:α, ∃c:List Value,c.length=d.sz∧d.K w y c∧ ∀i u,c[i]? =some u→w.cell? (a.add (j*d.sz+i))=some u:=fun j=>by
   have h1:=he j j.2
   rw [List.getElem?_eq_getElem (by omega),hsz,Option.bind_eq_some_iff] at h1
   obtain ⟨c,hc,hy⟩:=h1
   obtain ⟨y,hK⟩:=hel _ _ _ hy
   obtain ⟨_,hl3,hcell⟩:=World.cells?_some hc
   refine ⟨y,c,hl3,hK,fun i u hu=>?_⟩
   have hi:i < d.sz:=by
    have:=(List.getElem?_eq_some_iff.1 hu).1
    omega
   have:=hcell i hi
   rw [Go.Deep.add_add] at this
   rw [this,hu]
  refine ⟨some a,List.ofFn (fun j=>Classical.choose (H j)),cap,by rw [hcs,List.length_ofFn],by rw [List.length_ofFn];exact hl,by simp,by rw [List.length_ofFn];simp only [maxLen] at hm;omega,fun _=>⟨a,rfl,fun j p hj=>?_⟩⟩
  have hj2:j < len:=by
   have:=(List.getElem?_eq_some_iff.1 hj).1
   rwa [List.length_ofFn] at this
  rw [List.getElem?_eq_getElem (by rw [List.length_ofFn];exact hj2),List.getElem_ofFn] at hj
  obtain rfl:=Option.some.inj hj
  exact Classical.choose_spec (H ⟨j,hj2⟩)
theorem c3_:Tryd.prog.cellsOf 3=1:=by kernel_rfl
theorem c9_:Tryd.prog.cellsOf 9=1:=by kernel_rfl
theorem c37_:Tryd.prog.cellsOf 37=1:=by kernel_rfl
theorem c43_:Tryd.prog.cellsOf 43=3:=by kernel_rfl
theorem c66_:Tryd.prog.cellsOf 66=3:=by kernel_rfl
theorem trod_66 {fuel:Nat} {cs:List Value} {x:DataW H × List MemPlace} (h:DataW.trod enc Tryd.prog w base spare held fuel 66 cs=some x): ∃y:S66,k66.K w y cs:=by
 obtain ⟨y0,y1,y2,m,_,hz,h0,h1,h2⟩:=Go.Deep.trod_struct3 Tryd.underlying66 h
 simp only [c3_,c9_] at h0 h1 h2
 obtain ⟨a,e0,_,_⟩:=DataW.trod_string Tryd.underlying9 h0
 obtain ⟨b,e1,_,_⟩:=DataW.trod_int Tryd.underlying3 h1
 obtain ⟨c,e2,_,_⟩:=DataW.trod_string Tryd.underlying9 h2
 rw [c66_] at hz
 match cs,hz with
 | [c0,c1,c2],_=>
  have f0:c0= .string a:=by simpa using e0
  have f1:c1= .int .i64 b:=by simpa using e1
  have f2:c2= .string c:=by simpa using e2
  subst f0 f1 f2
  exact ⟨⟨a,b,c⟩,k66_mk w ⟨a,b,c⟩⟩
theorem trod_43 {fuel:Nat} {cs:List Value} {x:DataW H × List MemPlace} (h:DataW.trod enc Tryd.prog w base spare held fuel 43 cs=some x): ∃y:S43,k43.K w y cs:=by
 obtain ⟨y0,y1,y2,m,_,hz,h0,h1,h2⟩:=Go.Deep.trod_struct3 Tryd.underlying43 h
 simp only [c3_,c37_] at h0 h1 h2
 obtain ⟨a,e0,_,_⟩:=DataW.trod_int Tryd.underlying3 h0
 obtain ⟨b,e1,_,_⟩:=DataW.trod_int Tryd.underlying3 h1
 obtain ⟨A,l,c,e2,hl,hC⟩:=trod_row k66 Tryd.underlying37 c66_ (fun _ _ _=>trod_66) h2
 rw [c43_] at hz
 match cs,hz with
 | [d0,d1,d2],_=>
  have f0:d0= .int .i64 a:=by simpa using e0
  have f1:d1= .int .i64 b:=by simpa using e1
  have f2:d2= .slice A l.length c:=by simpa using e2
  subst f0 f1 f2
  exact ⟨⟨a,b,l⟩,k43_mk w ⟨a,b,l⟩ hl hC⟩
end
end Go.Proofs.YthejnffhfmdpnaaDoor.Q

end

section
namespace Go.Proofs.YthejnffhfmdpnaaDoor.Q
open Go.RowKit Go.Proofs.YthejnffhfmdpnaaDoorW.PrintWords Go.Proofs.YthejnffhfmdpnaaDoorW.PrintLast Go.Proofs.YthejnffhfmdpnaaDoorW.PrintMore
open Go.ChangeShapes Go.WideShapes
set_option linter.unusedVariables false
section
variable {H:Type} {enc:TypeId × Value→H} {w:World} {base:Nat} {spare:Nat→Bool} {held:Bool}
theorem c26_:Tryd.prog.cellsOf 26=1:=by kernel_rfl
theorem c31_:Tryd.prog.cellsOf 31=1:=by kernel_rfl
theorem c39_:Tryd.prog.cellsOf 39=5:=by kernel_rfl
theorem c45_:Tryd.prog.cellsOf 45=10:=by kernel_rfl
theorem trod_9 {fuel:Nat} {cs:List Value} {x:DataW H × List MemPlace} (h:DataW.trod enc Tryd.prog w base spare held fuel 9 cs=some x): ∃y:ByteArray,Kd.string.K w y cs:=by
 obtain ⟨a,e,_,_⟩:=DataW.trod_string Tryd.underlying9 h
 exact ⟨a,e⟩
theorem trod_3 {fuel:Nat} {cs:List Value} {x:DataW H × List MemPlace} (h:DataW.trod enc Tryd.prog w base spare held fuel 3 cs=some x): ∃y:Int,(Kd.int .i64).K w y cs:=by
 obtain ⟨a,e,_,_⟩:=DataW.trod_int Tryd.underlying3 h
 exact ⟨a,e⟩
set_option maxRecDepth 100000 in
theorem trod_39 {fuel:Nat} {cs:List Value} {x:DataW H × List MemPlace} (h:DataW.trod enc Tryd.prog w base spare held fuel 39 cs=some x): ∃y:S39,k39.K w y cs:=by
 obtain ⟨xs,n,_,rfl,hz,hlen,hf⟩:=DataW.trod_struct Tryd.underlying39 h
 match xs,hlen with
 | [y0,y1,y2,y3,y4],_=>
  have h0:DataW.trod enc Tryd.prog w base spare held n 26 ((cs.drop 0).take (Tryd.prog.cellsOf 26))=some y0:=hf 0 _ rfl
  have h1:DataW.trod enc Tryd.prog w base spare held n 3 ((cs.drop 1).take (Tryd.prog.cellsOf 3))=some y1:=hf 1 _ rfl
  have h2:DataW.trod enc Tryd.prog w base spare held n 3 ((cs.drop 2).take (Tryd.prog.cellsOf 3))=some y2:=hf 2 _ rfl
  have h3:DataW.trod enc Tryd.prog w base spare held n 37 ((cs.drop 3).take (Tryd.prog.cellsOf 37))=some y3:=hf 3 _ rfl
  have h4:DataW.trod enc Tryd.prog w base spare held n 31 ((cs.drop 4).take (Tryd.prog.cellsOf 31))=some y4:=hf 4 _ rfl
  rw [c26_] at h0
  rw [c3_] at h1 h2
  rw [c37_] at h3
  rw [c31_] at h4
  obtain ⟨a,e0,_,_⟩:=DataW.trod_int Tryd.underlying26 h0
  obtain ⟨b,e1,_,_⟩:=DataW.trod_int Tryd.underlying3 h1
  obtain ⟨c,e2,_,_⟩:=DataW.trod_int Tryd.underlying3 h2
  obtain ⟨A,l,k,e3,hl,hC⟩:=trod_row k66 Tryd.underlying37 c66_ (fun _ _ _=>trod_66) h3
  obtain ⟨B,m,k',e4,hm,hD⟩:=trod_row Kd.string Tryd.underlying31 c9_ (fun _ _ _=>trod_9) h4
  rw [c39_] at hz
  match cs,hz with
  | [d0,d1,d2,d3,d4],_=>
   have f0:d0= .int .i64 a:=by simpa using e0
   have f1:d1= .int .i64 b:=by simpa using e1
   have f2:d2= .int .i64 c:=by simpa using e2
   have f3:d3= .slice A l.length k:=by simpa using e3
   have f4:d4= .slice B m.length k':=by simpa using e4
   subst f0 f1 f2 f3 f4
   exact ⟨⟨a,b,c,l,m⟩,k39_mk w ⟨a,b,c,l,m⟩ hl hC hm hD⟩
set_option maxRecDepth 100000 in
theorem trod_45 {fuel:Nat} {cs:List Value} {x:DataW H × List MemPlace} (h:DataW.trod enc Tryd.prog w base spare held fuel 45 cs=some x): ∃y:S45,k45.K w y cs:=by
 obtain ⟨xs,n,_,rfl,hz,hlen,hf⟩:=DataW.trod_struct Tryd.underlying45 h
 match xs,hlen with
 | [y0,y1,y2,y3],_=>
  have h0:DataW.trod enc Tryd.prog w base spare held n 3 ((cs.drop 0).take (Tryd.prog.cellsOf 3))=some y0:=hf 0 _ rfl
  have h1:DataW.trod enc Tryd.prog w base spare held n 3 ((cs.drop 1).take (Tryd.prog.cellsOf 3))=some y1:=hf 1 _ rfl
  have h2:DataW.trod enc Tryd.prog w base spare held n 43 ((cs.drop 2).take (Tryd.prog.cellsOf 43))=some y2:=hf 2 _ rfl
  have h3:DataW.trod enc Tryd.prog w base spare held n 39 ((cs.drop 5).take (Tryd.prog.cellsOf 39))=some y3:=hf 3 _ rfl
  rw [c3_] at h0 h1
  rw [c43_] at h2
  rw [c39_] at h3
  obtain ⟨a,e0,_,_⟩:=DataW.trod_int Tryd.underlying3 h0
  obtain ⟨b,e1,_,_⟩:=DataW.trod_int Tryd.underlying3 h1
  obtain ⟨c,hc⟩:=trod_43 h2
  obtain ⟨d,hd⟩:=trod_39 h3
  rw [c45_] at hz
  match cs,hz with
  | [d0,d1,d2,d3,d4,d5,d6,d7,d8,d9],_=>
   have f0:d0= .int .i64 a:=by simpa using e0
   have f1:d1= .int .i64 b:=by simpa using e1
   subst f0 f1
   exact ⟨⟨a,b,c,d⟩,⟨[.int .i64 a],_,rfl,rfl,⟨[.int .i64 b],_,rfl,rfl,⟨[d2,d3,d4],[d5,d6,d7,d8,d9],rfl,hc,hd⟩⟩⟩⟩
theorem open_events {len cap:Nat} {a:Option Addr} {d:DataW H} {ps:List MemPlace} (h:DataW.Trod enc Tryd.prog w base spare held 22 (.slice a len cap) d ps): ∃l:List S45,l.length=len∧len≤cap∧Kd.C k45 w a l.length l:=by
 obtain ⟨fuel,hf⟩:=h
 obtain ⟨A,l,c,e,hl,hC⟩:=trod_row k45 Tryd.underlying22 c45_ (fun _ _ _=>trod_45) hf
 simp [Value.cells] at e
 obtain ⟨rfl,rfl,rfl⟩:=e
 exact ⟨l,rfl,hl,hC⟩
theorem open_ints {len cap:Nat} {a:Option Addr} {d:DataW H} {ps:List MemPlace} (h:DataW.Trod enc Tryd.prog w base spare held 23 (.slice a len cap) d ps): ∃l:List Int,l.length=len∧len≤cap∧Kd.C (Kd.int .i64) w a l.length l:=by
 obtain ⟨fuel,hf⟩:=h
 obtain ⟨A,l,c,e,hl,hC⟩:=trod_row (Kd.int .i64) Tryd.underlying23 c3_ (fun _ _ _=>trod_3) hf
 simp [Value.cells] at e
 obtain ⟨rfl,rfl,rfl⟩:=e
 exact ⟨l,rfl,hl,hC⟩
end
end Go.Proofs.YthejnffhfmdpnaaDoor.Q

end

section
namespace Go.Proofs.YthejnffhfmdpnaaDoor.speechHolds
open Go.ChangeShapes Go.WideShapes Go.ChangeAt Go.RowKit Go.Lib
set_option linter.unusedVariables false
theorem own:ownKnob Tryd.prog.godebug=none:=by kernel_rfl
theorem laidOut:laidOutB Tryd.prog=true:=by kernel_rfl
abbrev gSpec:OpenSpec:=OpenSpec.ofChange Rows.speechHoldsSpec
def litV:DataW Unit→Value
 | .lit (.int k n)=> .int k n
 |_=> .bool false
def rowV:DataW Unit→List (DataW Unit)
 | .agg xs=>xs
 |_=>[]
noncomputable def laidWorld (os:Os):World:=
 let w0:=World.holding Tryd.prog os ⟨#[],#[],[]⟩
 let put (h:Array Obj) (g:Nat) (cs:Array Value):Array Obj:=h.modify g fun
  | .cells _ t frozen=> .cells cs t frozen
  |o=>o
 let h1:=put w0.heap 1 ((rowV Rows.laid_unicode_utf8_first).map litV).toArray
 let h2:=put h1 2 ((rowV Rows.laid_unicode_utf8_acceptRanges).flatMap fun x=>(rowV x).map litV).toArray
 {w0 with heap:=h2}
theorem laid_met (os:Os) (args:Array Value):laidMet Tryd.prog Rows.speechHoldsRow.laid ((laidWorld os).forCall (fun _ _=>0) ⟨#[],args,[]⟩).memory:=
 (LaidIn.of_run (l:=Rows.speechHoldsRow.laid) [2,1] 8 (by kernel_rfl) (by kernel_rfl) (by kernel_rfl) (by kernel_rfl)).met
theorem witness_row (os:Os) {H:Type} (enc:TypeId × Value→H):
  gSpec.preRow enc Tryd.prog Tryd.f10 Rows.speechHoldsRow.domain false Rows.speechHoldsRow.laid ((laidWorld os).forCall (fun _ _=>0) ⟨#[],#[.slice none 0 0, .slice none 0 0],[]⟩).memory #[.slice none 0 0, .slice none 0 0]:=by
 have hw:(DataW.whole enc Tryd.prog ((laidWorld os).forCall (fun _ _=>0) ⟨#[],#[.slice none 0 0, .slice none 0 0],[]⟩).memory Tryd.f10.params.toList gSpec.vars false #[Value.slice none 0 0,Value.slice none 0 0].toList 8).map (fun x=>(x.1,x.2.1))=
   some ([.nil, .nil],[]):=by kernel_rfl
 obtain ⟨⟨x1,x2,x3⟩,hx,hx1⟩:=Option.map_eq_some_iff.1 hw
 simp only [Prod.mk.injEq] at hx1
 obtain ⟨rfl,rfl⟩:=hx1
 exact OpenSpec.preRow_of_cond 8 hx (by kernel_rfl) (fun k hk=>by cases hk) (by kernel_rfl) (laid_met os _)
set_option maxRecDepth 100000 in
set_option maxHeartbeats 2000000 in
theorem lifted (os:Os) (started:os.Started) (H:Type) (enc:TypeId × Value→H) (F:Stop.Interp):
  ReturnsInHanded {} Tryd.checked os 10 .any (gSpec.preRow enc Tryd.prog Tryd.f10 Rows.speechHoldsRow.domain false Rows.speechHoldsRow.laid) ((gSpec.at F).post enc Tryd.prog Tryd.f10 false true false false):=by
 refine returnsInHanded_of_row (C:=Tryd.checked) (s:=gSpec) own started (by kernel_rfl) Tryd.func10
  (witness_row_atRef (enc:=enc) (C:=Tryd.checked) false (laidWorld os) #[.slice none 0 0, .slice none 0 0] rfl (by kernel_rfl) (by kernel_rfl) (by kernel_rfl) (witness_row os enc)) ?_
 intro W base args ds gs before hval0 hW _ _ _ hL _ _
 have hval: ∀(j:Nat) t v,Tryd.f10.params[j]? =some t→args[j]? =some v→Value.okWide Tryd.prog W .any base t v:=hval0
 have hW':=hW
 obtain ⟨p,q,hA0,hV0,rfl,_,_⟩:=hW
 have hA:DataW.TrodAll enc Tryd.prog W 0 (fun _=>true) true Tryd.f10.params.toList args.toList ds p:=hA0
 rw [Tryd.params10] at hA hval
 obtain ⟨v0,v1,d0,d1,p0,p1,rfl,rfl,rfl,h0,h1⟩:=trodAll_two hA
 obtain ⟨rfl,rfl⟩:=trodVars_none hV0
 obtain ⟨a0,len0,cap0,rfl⟩:=okWide_slice Tryd.underlying22 (hval 0 22 v0 rfl rfl)
 have k0:=h0
 have lt0: ∀x ∈ p0,x.block < W.heap.size:=by obtain ⟨m,hm⟩:=k0;exact DataW.trod_lt m _ _ _ hm
 obtain ⟨l0,rfl,hl0,hC0⟩:=Q.open_events h0
 obtain ⟨a1,len1,cap1,rfl⟩:=okWide_slice Tryd.underlying23 (hval 1 23 v1 rfl rfl)
 have k1:=h1
 have lt1: ∀x ∈ p1,x.block < W.heap.size:=by obtain ⟨m,hm⟩:=k1;exact DataW.trod_lt m _ _ _ hm
 obtain ⟨l1,rfl,hl1,hC1⟩:=Q.open_ints h1
 clear hA0 hV0 hval0
 refine (Q.mholds_calls a0 cap0 l0 a1 cap1 l1 W hC0 hC1).mono ?_
 rintro e W' ⟨rfl,bel⟩
 have e1:(gSpec.at F).fn H ([d0,d1]++[])={results:=[.lit (.bool true)],args:=[d0,d1]}:=rfl
 exact ⟨_,rfl,_,_,_,[],_,[],hW',trodAll_mk1 (shut_bool Tryd.underlying4 _),trodAll_mk2 (Below.trod laidOut (by kernel_rfl) (of_decide_eq_true (by kernel_rfl)) k0 bel lt0) (Below.trod laidOut (by kernel_rfl) (of_decide_eq_true (by kernel_rfl)) k1 bel lt1),rfl,bel.frame _,fun h=>by cases h⟩
theorem holds:Rows.SpeechHoldsSaid:=
 OpenClaim.holds_of_cond 10 Tryd.f10 rfl rfl rfl rfl rfl rfl rfl ⟨rfl,rfl,rfl,rfl,rfl⟩ rfl rfl rfl rfl rfl (by kernel_rfl) Tryd.func10 (by kernel_rfl)
  (of_decide_eq_true (by kernel_rfl)) (by unfold Func.isWrapper;rw [if_neg (of_decide_eq_false (by kernel_rfl))];exact ⟨rfl,rfl⟩)
  (fun os started H enc _ F0=>by rw [OpenClaim.pre_eq_preRow];exact lifted os started H enc F0)
theorem card_holds:Rows.SpeechHoldsCardSaid:=
 Claim7.holds_tied_plain_at .later [] [.data, .pinned] true (true, "7420a93d4a17575aa1b5cac436dbd42f330b9b924339a14b30b70292c9a041d8") false
  holds (fun _ h=>by cases h) (by kernel_rfl) (fun _ h=>by cases h) speechHolds_row_tie rfl ⟨rfl,rfl⟩ (by kernel_rfl) rfl
  (fun f fn hf hfn=>by
   obtain rfl:f=10:=Option.some.inj ((show Tryd.prog.funcNamed "barque/barquelaw22.SpeechHolds" =some 10 by kernel_rfl).symm.trans hf) |>.symm
   obtain rfl:fn=Tryd.f10:=(Option.some.inj (Tryd.func10.symm.trans hfn)).symm
   exact ⟨by kernel_rfl,fun j t ht=>by
    rw [Tryd.params10] at ht
    have h3:t=22∨t=23:=by
     rcases j with _|_|j
     ·exact .inl (by simpa using ht.symm)
     ·exact .inr (by simpa using ht.symm)
     ·simp at ht
    rcases h3 with rfl|rfl
    ·exact (show Tryd.prog.wantsStandIn 22=false by kernel_rfl)
    ·exact (show Tryd.prog.wantsStandIn 23=false by kernel_rfl)⟩)
  (by kernel_rfl)
end Go.Proofs.YthejnffhfmdpnaaDoor.speechHolds
namespace Go.Proofs.YthejnffhfmdpnaaDoor
theorem speechHolds_card:Rows.SpeechHoldsCardSaid:=speechHolds.card_holds
end Go.Proofs.YthejnffhfmdpnaaDoor

end
