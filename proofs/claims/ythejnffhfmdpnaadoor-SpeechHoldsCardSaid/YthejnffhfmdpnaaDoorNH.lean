/- Texts of this claim, in one file. -/
import Derived.Outline
import Derived.Test.YthejnffhfmdpnaaDoorNG
section
namespace Go.Proofs.YthejnffhfmdpnaaDoor.Q
open Go.RowKit Go.Proofs.YthejnffhfmdpnaaDoor.Spec Go.Proofs.YthejnffhfmdpnaaDoorW.PrintWords Go.Proofs.YthejnffhfmdpnaaDoorW.PrintLast Go.Proofs.YthejnffhfmdpnaaDoorW.PrintMore
set_option linter.unusedVariables false
set_option linter.unusedSimpArgs false
theorem rd_strip (l:List S45) (i:Int):rd_T45 (l.map strip) i=strip (rd_T45 l i):=by
 unfold rd_T45
 rw [List.getD_eq_getElem?_getD,List.getD_eq_getElem?_getD,List.getElem?_map]
 cases l[i.toNat]? <;>rfl
theorem idle_strip (x:S45):idleB (strip x)=idleB x:=rfl
theorem over_strip (l:List S45) (dn:List Bool):overB (l.map strip) dn=overB l dn:=by
 unfold overB
 rw [List.length_map]
 congr 1
 funext i
 unfold doneB
 rw [rd_strip,idle_strip]
theorem free_strip (l:List S45) (dn:List Bool) (i:Nat):freeB (l.map strip) dn i=freeB l dn i:=by
 unfold freeB
 rw [List.length_map]
 congr 1
 funext k
 unfold waysB
 rw [rd_strip,rd_strip,idle_strip]
 rfl
def HF2 (w:World) (g g6:Nat) (Ac:Option Addr) (cc:Nat) (ls:List S45) (A5:Option Addr) (c5:Nat) (dn:List Bool) (fl:Int) (At:Option Addr) (ct:Nat) (tr:List ByteArray) (W:World):Prop:=
 Fnd w g Ac cc ls (.slice A5 ls.length c5) dn 0 (.slice none 0 0) [] W∧W.heap[g6]? =some (.cells #[.int .i64 fl, .slice At tr.length ct] 36 (0,0))∧w.heap.size≤g6∧Kd.R Kd.string 9 W w.heap.size (fun _=>True) (.slice At tr.length ct) tr
theorem bool_far {gd n c1 b0:Nat} {ok0:Nat→Prop} {dn:List Bool} {W:World} (h:Kd.R Kd.bool 4 W b0 ok0 (.slice (some ⟨gd,0,none⟩) n c1) dn) {α:Type} {d:Kd α} {e base:Nat} {ok:Nat→Prop} {v:Value} {xs:List α} (hR:d.R e W base ok v xs) (ht: ∀q,q ∈ e::d.E→q≠4) (i:Nat) (u:Value):d.R e (W.setCell ⟨gd,i,none⟩ u) base ok v xs:=by
 obtain ⟨inner,ho⟩:=Kd.R_own h
 rcases ho.2 with ⟨h2,_⟩|⟨gd',cap,cur,h1,_,hc,_⟩
 ·injection h2 with h2 _ _;exact absurd h2 (by simp)
 ·injection h1 with h1 _ _
  injection h1 with h1
  injection h1 with h1
  subst h1
  exact Kd.R_set hR hc ht i u
theorem Fnd.box {wB W:World} {g:Nat} {A0:Option Addr} {c0:Nat} {l:List S45} {v1 v3:Value} {dn:List Bool} {left:Int} {od:List Int} (h:Fnd wB g A0 c0 l v1 dn left v3 od W) {b:Nat} {c:Array Value} (hb:W.heap[b]? =some (.cells c 36 (0,0))) (hw:wB.heap.size≤b) (j:Nat) (u:Value):Fnd wB g A0 c0 l v1 dn left v3 od (W.setCell ⟨b,j,none⟩ u):=
 ⟨blk_far h.1 (fun e=>by have h1:=h.1;rw [e,hb] at h1;simp at h1) _,h.2.1.set hb (by decide) j u,h.2.2.1,below_set h.2.2.2.1 hw,h.2.2.2.2.1,Kd.R_set h.2.2.2.2.2.1 hb (by decide) j u,Kd.R_set h.2.2.2.2.2.2.1 hb (by decide) j u,h.2.2.2.2.2.2.2⟩
theorem HF2.below {w W W1:World} {g g6:Nat} {Ac:Option Addr} {cc:Nat} {ls:List S45} {A5:Option Addr} {c5:Nat} {dn:List Bool} {fl:Int} {At:Option Addr} {ct:Nat} {tr:List ByteArray} (h:HF2 w g g6 Ac cc ls A5 c5 dn fl At ct tr W) (hb:Below W.heap.size W W1):HF2 w g g6 Ac cc ls A5 c5 dn fl At ct tr W1:=
 ⟨h.1.below hb,blk_below h.2.1 hb,h.2.2.1,Kd.R_below h.2.2.2 hb⟩
theorem HF2.step {w W:World} {g g6 gd:Nat} {Ac:Option Addr} {cc:Nat} {ls:List S45} {c5:Nat} {dn:List Bool} {fl:Int} {At:Option Addr} {ct:Nat} {tr:List ByteArray} (h:HF2 w g g6 Ac cc ls (some ⟨gd,0,none⟩) c5 dn fl At ct tr W) (j:Nat) (hgd:w.heap.size≤gd) {fl':Int} {B:Option Addr} {k:Nat} {tr':List ByteArray} (hv:Kd.R Kd.string 9 W w.heap.size (fun _=>True) (.slice B tr'.length k) tr'):
  HF2 w g g6 Ac cc ls (some ⟨gd,0,none⟩) c5 (dn.set j true) fl' B k tr' (((W.setCell ⟨gd,j,none⟩ (.bool true)).setCell ⟨g6,0,none⟩ (.int .i64 fl')).setCell ⟨g6,1,none⟩ (.slice B tr'.length k)):=by
 obtain ⟨hF,hL,hg,hT⟩:=h
 have hne:g6≠gd:=fun e=>Kd.R_ne hF.2.2.2.2.2.1 hL (by decide) (by rw [e];rfl)
 have hF1:=hF.setDone j true hgd
 have hL1:(W.setCell ⟨gd,j,none⟩ (.bool true)).heap[g6]? =some (.cells #[.int .i64 fl, .slice At tr.length ct] 36 (0,0)):=blk_far hL hne _
 have hV1:=bool_far hF.2.2.2.2.2.1 hv (by decide) j (.bool true)
 have hL2:((W.setCell ⟨gd,j,none⟩ (.bool true)).setCell ⟨g6,0,none⟩ (.int .i64 fl')).heap[g6]? =some (.cells #[.int .i64 fl', .slice At tr.length ct] 36 (0,0)):=blk_put hL1 0 _ rfl
 exact ⟨(hF1.box hL1 hg 0 _).box hL2 hg 1 _,blk_put hL2 1 _ rfl,hg,Kd.R_set (Kd.R_set hV1 hL1 (by decide) 0 _) hL2 (by decide) 1 _⟩
set_option maxHeartbeats 8000000 in
set_option maxRecDepth 100000 in
theorem holds26_calls (A0:Option Addr) (c0:Nat) (l:List S45) (A1:Option Addr) (c1:Nat) (order:List Int) (w:World) (hr0:Kd.C k45 w A0 l.length l) (hr1:Kd.C (Kd.int .i64) w A1 order.length order) (hs:Small l):
  Calls Tryd.prog 26 #[.slice A0 l.length c0, .slice A1 order.length c1] w fun e w'=>e= .returned (.bool (holdsB l order))∧Below w.heap.size w w':=by
 have HR0:=Aside0.mk hr0
 have HR1:=Aside0.mk hr1
 have HSm:=Aside0.mk hs
 have hlm:=hr0.2.1
 have hlm1:=hr1.2.1
 clear hr0 hr1 hs
 have HRt:=Aside0.mk (rightc_calls A0 c0 l w HR0.out)
 cases hb:rightB l with
 |false=>
  rw [hb] at HRt
  have HO:=Aside0.mk (show holdsB l order=false by unfold holdsB;rw [if_neg (by rw [hb];decide)])
  clear hb
  go_enter Tryd.func26,Tryd.ntmps26
  go_wp2_with (first|(go_at_call 27;(with_reducible refine HRt.out.mono ?_);rintro e w1 ⟨rfl,hb⟩;have HB:=Aside0.mk hb;clear hb))
  go_ret
  exact ⟨by rw [HO.out];rfl,HB.out⟩
 |true=>
  rw [hb] at HRt
  have HO:=Aside0.mk (show holdsB l order=holdsL l order (List.replicate l.length false) 0 [] by unfold holdsB;rw [if_pos hb])
  have hL:l.length≤256:=by unfold rightB at hb;rw [Bool.and_eq_true] at hb;exact of_decide_eq_true hb.1
  have HLen:=Aside0.mk hL
  clear hb hL
  go_enter Tryd.func26,Tryd.ntmps26
  go_wp2_with (first|(go_at_call 27;(with_reducible refine HRt.out.mono ?_);rintro e w1 ⟨rfl,hb⟩;have HB:=Aside0.mk hb;clear hb))
  refine start_ (n:=8) (S:=fun _=>True) (ds:=[]) (TG [0,8]) (by kernel_rfl) rfl rfl trivial (fun hHeld=>?_)
  replace HB:=Aside0.mk (below_drew HB.out)
  generalize w1.drew=W1 at HB hHeld ⊢
  apply pu 0 (some 15) [1,7] rfl rfl (by kernel_rfl) (fun _ _ _ h=>h) (by rfl)
  ·intro w';go_simp;with_reducible rfl
  ·simp only [Act.put,List.setIfInBounds_toArray,List.set_cons_zero,List.set_cons_succ,i64_w];rfl
  apply pu 2 (some 17) [1,1,1,5] rfl rfl (by kernel_rfl) (fun _ _ _ h=>h) (by rfl)
  ·intro w';go_simp;with_reducible rfl
  ·simp only [Act.put,List.setIfInBounds_toArray,List.set_cons_zero,List.set_cons_succ,i64_w];rfl
  apply pu 3 (some 18) [1,1,2,4] rfl rfl (by kernel_rfl) (fun _ _ _ h=>h) (by rfl)
  ·intro w';go_simp;with_reducible rfl
  ·simp only [Act.put,List.setIfInBounds_toArray,List.set_cons_zero,List.set_cons_succ,i64_w];rfl
  refine join_ (σ:=(Option Addr × Nat) × Option Addr × Nat) 3 (TG [5,3]) (fun s_=>[(16, .slice s_.1.1 l.length s_.1.2),(19, .slice s_.2.1 l.length s_.2.2)]) (fun s_ w'=>Below w.heap.size w w'∧CRow w w' (.slice s_.1.1 l.length s_.1.2) (l.map strip)∧l.length≤s_.1.2∧Kd.R Kd.bool 4 w' w.heap.size (fun _=>True) (.slice s_.2.1 l.length s_.2.2) (List.replicate l.length false)) ?_ ?_
  rotate_left
  ·intro hCont
   refine two_ (i:=1) (j:=4) (Ni:=some 16) (Nj:=some 19) (TG [4,4]) (TG [1,1,3,3]) rfl rfl rfl rfl (by kernel_rfl) (by decide) (by decide) (fun K hK=>?_) (fun K hK=>?_)
   ·skip
    refine goes_ Tryd.func36 (by kernel_rfl) rfl #[.slice A0 l.length c0] (by rfl) rfl rfl (by simp only [List.map_toArray,List.map_cons,List.map_nil];rfl) ?_
    with_reducible refine (efree_calls A0 c0 l w _ HR0.out HB.out (by have:=HLen.out;omega)).mono ?_
    rintro e W2 ⟨Ac,cc,rfl,hc,hC,hb⟩
    refine ⟨_,rfl,?_⟩
    replace HB:=Aside0.mk (below_step HB.out hb)
    have GC:=Aside0.mk (And.intro hC hc)
    clear hc hC hb
    refine hK.out _ _ trivial (fun hHeld=>?_)
    clear hK K
    refine norm_ (a':=?_) ?_ ?_
    rotate_left
    ·show Act.put _ (some 16) _=_
     simp only [Act.put,List.setIfInBounds_toArray,List.set_cons_zero,List.set_cons_succ,i64_w];rfl
    refine one_ (i:=4) (N:=some 19) (TG [5,3]) rfl rfl (by kernel_rfl) (by decide) (fun K hK=>?_)
    refine Kd.R_make_step Kd.bool (w0:=w) w.heap.size 4 ?hw (N:=19) ?hd 56 (.tmp 18) (.tmp 18) ?ho (l.length:Int) ?hx ?hy Tryd.underlying56 (.bool false) 1 ?hi ?hz (by decide) (by decide) false (ok:=fun _=>True) (okp:=fun _=>True) ?hm (fun _ _=>trivial) trivial (by omega) ?hl HB.out HB.out.size ?_;(case hd=>rfl);(case ho=>rfl);(case hw=>first|(go_simp;done)|(go_simp;rfl));(case hx=>rfl);(case hy=>rfl);(case hi=>kernel_rfl);(case hz=>rfl);(case hm=>rfl);(case hl=>have:=HLen.out;rw [Int.toNat_natCast];omega)
    intro v1 W3 g1 hb hg hnew_
    rw [Int.toNat_natCast] at g1
    obtain ⟨A5,c5,rfl⟩:=Kd.R_slice g1
    rw [List.length_replicate] at g1 ⊢
    replace HB:=Aside0.mk hb
    have G1:=Aside0.mk g1
    replace GC:=Aside0.mk (And.intro (GC.out.1.below (below_grown hg)) GC.out.2)
    clear g1 hb hg hnew_
    refine hK.out _ _ trivial (fun hHeld=>?_)
    clear hK K
    refine norm_ (a':=?_) ?_ ?_
    rotate_left
    ·show Act.put _ (some 19) _=_
     simp only [Act.put,List.setIfInBounds_toArray,List.set_cons_zero,List.set_cons_succ,i64_w];rfl
    exact norm_ (by simp only [putAll,Act.put,List.setIfInBounds_toArray,List.set_cons_zero,List.set_cons_succ]) (hCont ((Ac,cc),(A5,c5)) _ ⟨HB.out,GC.out.1,GC.out.2,G1.out⟩)
   ·skip
    refine Kd.R_make_step Kd.bool (w0:=w) w.heap.size 4 ?hw (N:=19) ?hd 56 (.tmp 18) (.tmp 18) ?ho (l.length:Int) ?hx ?hy Tryd.underlying56 (.bool false) 1 ?hi ?hz (by decide) (by decide) false (ok:=fun _=>True) (okp:=fun _=>True) ?hm (fun _ _=>trivial) trivial (by omega) ?hl HB.out HB.out.size ?_;(case hd=>rfl);(case ho=>rfl);(case hw=>first|(go_simp;done)|(go_simp;rfl));(case hx=>rfl);(case hy=>rfl);(case hi=>kernel_rfl);(case hz=>rfl);(case hm=>rfl);(case hl=>have:=HLen.out;rw [Int.toNat_natCast];omega)
    intro v1 W3 g1 hb hg hnew_
    rw [Int.toNat_natCast] at g1
    obtain ⟨A5,c5,rfl⟩:=Kd.R_slice g1
    rw [List.length_replicate] at g1 ⊢
    replace HB:=Aside0.mk hb
    have G1:=Aside0.mk g1
    clear g1 hb hg hnew_
    refine hK.out _ _ trivial (fun hHeld=>?_)
    clear hK K
    refine norm_ (a':=?_) ?_ ?_
    rotate_left
    ·show Act.put _ (some 19) _=_
     simp only [Act.put,List.setIfInBounds_toArray,List.set_cons_zero,List.set_cons_succ,i64_w];rfl
    refine one_ (i:=1) (N:=some 16) (TG [5,3]) rfl rfl (by kernel_rfl) (by decide) (fun K hK=>?_)
    refine goes_ Tryd.func36 (by kernel_rfl) rfl #[.slice A0 l.length c0] (by rfl) rfl rfl (by simp only [List.map_toArray,List.map_cons,List.map_nil];rfl) ?_
    with_reducible refine (efree_calls A0 c0 l w _ HR0.out HB.out (by have:=HLen.out;omega)).mono ?_
    rintro e W2 ⟨Ac,cc,rfl,hc,hC,hb⟩
    refine ⟨_,rfl,?_⟩
    replace HB:=Aside0.mk (below_step HB.out hb)
    have GC:=Aside0.mk (And.intro hC hc)
    replace G1:=Aside0.mk (Kd.R_below G1.out hb)
    clear hc hC hb
    refine hK.out _ _ trivial (fun hHeld=>?_)
    clear hK K
    refine norm_ (a':=?_) ?_ ?_
    rotate_left
    ·show Act.put _ (some 16) _=_
     simp only [Act.put,List.setIfInBounds_toArray,List.set_cons_zero,List.set_cons_succ,i64_w];rfl
    exact norm_ (by simp only [putAll,Act.put,List.setIfInBounds_toArray,List.set_cons_zero,List.set_cons_succ]) (hCont ((Ac,cc),(A5,c5)) _ ⟨HB.out,GC.out.1,GC.out.2,G1.out⟩)
  clear HB
  rintro ⟨⟨Ac,cc⟩,A5,c5⟩ U ⟨hB,hC,hc,hD⟩
  dsimp only at hC hc hD ⊢
  refine norm_ (by simp only [putAll,Act.put,List.setIfInBounds_toArray,List.set_cons_zero,List.set_cons_succ];rfl) ?_
  apply pu 5 (some 20) [6,2] rfl rfl (by kernel_rfl) (fun _ _ _ h=>h) (by rfl)
  ·intro w';go_simp;with_reducible rfl
  ·simp only [Act.put,List.setIfInBounds_toArray,List.set_cons_zero,List.set_cons_succ,i64_w];rfl
  refine one_ (i:=6) (N:=some 21) (TG [7,1]) rfl rfl (by kernel_rfl) (by decide) (fun K hK=>?_)
  refine value_ (w1:=?_) (v:=?_) (by rfl) rfl ?_ ?_
  rotate_left 2
  ·go_simp
   constructor
   ·rfl
   ·rfl
  have hF:Fnd w U.heap.size Ac cc (l.map strip) (.slice A5 l.length c5) (List.replicate l.length false) 0 (.slice none 0 0) [] (U.alloc (.cells #[.slice Ac l.length cc, .slice A5 l.length c5, .int .i64 0, .slice none 0 0] 76)):=⟨by rw [List.length_map];exact blk_new U _,by rw [List.length_map];exact hC.below (below_alloc (Below.refl _ _) _),by rw [List.length_map];exact hc,below_alloc hB _,hB.size,Kd.R_alloc hD _,Kd.R_nil _ _ _ _ _,by rw [List.length_map,List.length_replicate]⟩
  generalize U.heap.size=g at hF ⊢
  generalize U.alloc (.cells #[.slice Ac l.length cc, .slice A5 l.length c5, .int .i64 0, .slice none 0 0] 76)=U1 at hF ⊢
  clear hB hC hc hD
  refine hK.out _ _ trivial (fun hHeld=>?_)
  clear hK K
  refine norm_ (a':=?_) ?_ ?_
  rotate_left
  ·show Act.put _ (some 21) _=_
   simp only [Act.put,List.setIfInBounds_toArray,List.set_cons_zero,List.set_cons_succ,i64_w];rfl
  apply pu 7 (some 5) [8] rfl rfl (by kernel_rfl) (fun _ _ _ h=>h) (by rfl)
  ·intro w';go_simp;with_reducible rfl
  ·simp only [Act.put,List.setIfInBounds_toArray,List.set_cons_zero,List.set_cons_succ,i64_w];rfl
  refine done_ (by kernel_rfl) ?_
  go_wp2_with fail
  have HS:=Aside0.mk (show HF2 w g U1.heap.size Ac cc (l.map strip) A5 c5 (List.replicate l.length false) 0 none 0 [] (U1.alloc (.cells #[.int .i64 0, .slice none 0 0] 36)) from ⟨by rw [List.length_map];exact hF.below (below_alloc (Below.refl _ _) _),blk_new _ _,hF.2.2.2.1.size,Kd.R_nil _ _ _ _ _⟩)
  generalize U1.heap.size=g6 at HS ⊢
  generalize U1.alloc (.cells #[.int .i64 0, .slice none 0 0] 36)=w0 at HS ⊢
  clear hF
  go_loopg [25] (order.length+1) (fun gq v25 wr=> ∃(k:Nat) (dn:List Bool) (fl:Int) (At:Option Addr) (ct:Nat) (tr:List ByteArray),v25= .int .i64 k∧Aside0 (k≤order.length∧gq+k=order.length+1)∧Aside0 (HF2 w g g6 Ac cc (l.map strip) A5 c5 dn fl At ct tr wr)∧Aside0 (holdsB l order=holdsL l (order.drop k) dn fl tr)∧Aside0 (dn.length=l.length∧tr.length≤dn.count true))
  case atStart=>exact ⟨0,List.replicate l.length false,0,none,0,[],rfl,⟨by omega⟩,HS,⟨by rw [HO.out,List.drop_zero]⟩,⟨by rw [List.length_replicate],Nat.zero_le _⟩⟩
  case round=>
   clear HS HO
   obtain ⟨k,dn,fl,At,ct,tr,rfl,HG,HS,HO,HN⟩:=hrel
   have hle:=HG.out.1
   by_cases hlt:k < order.length
   ·have ltb:decide ((k:Int) < (order.length:Int))=true:=decide_eq_true (by omega)
    have ltc:decide (k < order.length)=true:=decide_eq_true hlt
    have p200:=eq_true (show (0:Int)≤(k:Int) by omega)
    have q200:=eq_true (show (k:Int) < (order.length:Int) by omega)
    have HB:=Aside0.mk HS.out.1.2.2.2.1
    obtain ⟨ad,ead,y0⟩:=Kd.at_int (Kd.C_below HR1.out HB.out) (k:Int) (by omega) (by omega)
    cases ead
    rw [Int.toNat_natCast] at y0
    have ho:=HO.out
    rw [rd_drop hlt] at ho
    change _=some (Value.int .i64 (rdOf 0 order (k:Int))) at y0
    generalize rdOf 0 order (k:Int)=i at y0 ho
    by_cases hi:i < 0∨(l.length:Int)≤i
    ·have HO2:=Aside0.mk (show holdsB l order=false by rw [ho,holdsL,if_pos (by omega)])
     clear ho
     cases h1:decide (i < 0)
     ·have h2:decide ((l.length:Int)≤i)=true:=decide_eq_true (by have:=of_decide_eq_false h1;omega)
      go_wp2_with fail
      go_ret
      exact ⟨by rw [HO2.out];rfl,HB.out⟩
     ·go_wp2_with fail
      go_ret
      exact ⟨by rw [HO2.out];rfl,HB.out⟩
    ·obtain ⟨j,rfl⟩: ∃j:Nat,i=(j:Int):=⟨i.toNat,by omega⟩
     have hj:j < l.length:=by omega
     have h1:decide ((j:Int) < 0)=false:=decide_eq_false (by omega)
     have h2:decide ((l.length:Int)≤(j:Int))=false:=decide_eq_false (by omega)
     have h2':decide (l.length≤j)=false:=decide_eq_false (by omega)
     have p201:=eq_true (show (0:Int)≤(j:Int) by omega)
     have q201:=eq_true (show (j:Int) < (l.length:Int) by omega)
     have hn:=HN.out
     obtain ⟨gd,rfl,hgd⟩:=HS.out.1.head (by rw [List.length_map];omega)
     obtain ⟨f0,f1,f2,f3⟩:=HS.out.1.cells
     rw [List.length_map] at f0 f1
     obtain ⟨d0,d1⟩:=Kd.R_celln (enc:=Value.bool) (h1:=fun _=>rfl) false HS.out.1.2.2.2.2.2.1 (j:Int) (by omega) (by rw [List.length_map];omega)
     rw [Int.toNat_natCast] at d0 d1
     cases h3:rdOf false dn (j:Int)
     case true=>
      have HO2:=Aside0.mk (show holdsB l order=false by rw [ho,holdsL,if_pos (.inr (.inr h3))])
      rw [h3] at d0
      clear ho hn
      go_wp2_with fail
      go_ret
      exact ⟨by rw [HO2.out];rfl,HB.out⟩
     rw [h3] at d0
     have HC:=Aside0.mk (count_set dn j (rd_false (by omega) h3))
     have hc:=List.count_le_length (a:=true) (l:=dn)
     have HT:=Aside0.mk (show tr.length < 1000000 by have:=HLen.out;omega)
     have HJ:=Aside0.mk (And.intro hj hgd)
     have HNl:=Aside0.mk (nextB_len l dn fl tr j)
     have HO2:=Aside0.mk (show holdsB l order=if (nextB l dn fl tr j).2.2=true then holdsL l (order.drop (k+1)) (dn.set j true) (nextB l dn fl tr j).1 (nextB l dn fl tr j).2.1 else false by
      rw [ho,holdsL,if_neg (by rintro (h|h|h);omega;omega;rw [h3] at h;exact absurd h (by decide)),Int.toNat_natCast])
     have HFr:=Aside0.mk (free_calls g Ac cc (l.map strip) (some ⟨gd,0,none⟩) c5 dn 0 (.slice none 0 0) wr HS.out.1.fst (by rw [List.length_map];exact hn.1) j (by rw [List.length_map];exact hj))
     rw [free_strip] at HFr
     clear ho hn h3 hc hi hgd
     cases h4:freeB l dn j
     case false=>
      have HO3:=Aside0.mk (show holdsB l order=false by rw [HO2.out,nextB_no h4];rfl)
      rw [h4] at HFr
      clear h4
      go_wp2_with (first|(go_at_call 38;(with_reducible refine HFr.out.mono ?_);rintro e w1 ⟨rfl,hb⟩;replace HB:=Aside0.mk (below_step HB.out hb);clear hb))
      go_ret
      exact ⟨by rw [HO3.out];rfl,HB.out⟩
     rw [h4] at HFr
     obtain ⟨x,hx⟩: ∃x,x=rd_T45 l (j:Int):=⟨_,rfl⟩
     obtain ⟨a,ha⟩: ∃a,a=doE fl tr x:=⟨_,rfl⟩
     have hnx:=nextB_yes (fl:=fl) (tr:=tr) h4 hx ha
     rw [hnx] at HO2 HNl
     dsimp only at HO2 HNl
     have hxl:x.f2.f2.length≤1000:=HSm.out x (by rw [hx,rd_T45,Int.toNat_natCast,List.getD_eq_getElem?_getD,List.getElem?_eq_getElem hj,Option.getD_some];exact List.getElem_mem hj)
     obtain ⟨ad0,A4,c4,A8,c8,A9,c9,ead0,x0,x1,x2,x3,x4,x5,x6,x7,x8,x9,l4,g4,l8,g8,l9,g9⟩:=at_T45 HR0.out (j:Int) (by omega) (by omega)
     cases ead0
     rw [Int.toNat_natCast, ← hx] at x2 x3 x4
     rw [← hx] at l4 g4
     have HX4:=Aside0.mk (And.intro l4 (And.intro g4 (And.intro hxl ha)))
     have HXw:=Aside0.mk (And.intro x2 (And.intro x3 x4))
     have HXs:=Aside0.mk hx
     clear x0 x1 x2 x3 x4 x5 x6 x7 x8 x9 l4 g4 l8 g8 l9 g9 hnx hxl hx ha h4
     go_wp2_with (first|(go_at_call 38;(with_reducible refine HFr.out.mono ?_);rintro e w1 ⟨rfl,hb⟩;have hS1:HF2 w g g6 Ac cc (l.map strip) (some ⟨gd,0,none⟩) c5 dn fl At ct tr w1:=⟨HS.out.1.below hb,blk_below HS.out.2.1 hb,HS.out.2.2.1,Kd.R_below HS.out.2.2.2 hb⟩;have HS1:=Aside0.mk hS1;replace HB:=Aside0.mk (below_step HB.out hb);clear hb hS1 HS d0 d1 f0 f1 f2 f3 y0))
     have HC1:=HC
     clear HC
     have HC:=Aside0.mk (show ∀w',Below w1.heap.size w1 w'→w'.cell? ⟨g6,0,none⟩=some (.int .i64 fl)∧w'.cell? ⟨g6,1,none⟩=some (.slice At tr.length ct)∧w'.cell? ⟨(ad0.add (j*10)).block,(ad0.add (j*10)).off+2,none⟩=some (.int .i64 x.f2.f0)∧w'.cell? ⟨(ad0.add (j*10)).block,(ad0.add (j*10)).off+3,none⟩=some (.int .i64 x.f2.f1)∧w'.cell? ⟨(ad0.add (j*10)).block,(ad0.add (j*10)).off+4,none⟩=some (.slice A4 x.f2.f2.length c4) from fun w' hS=>by
      have hq:=blk_below HS1.out.2.1 hS
      have hcl: ∀{q v},w.cell? q=some v→w'.cell? q=some v:=fun {q v} h=>((below_step HB.out hS).cell (World.block_lt_of_cell? w _ h)).trans h
      exact ⟨(cells2 hq).1.1,(cells2 hq).1.2,hcl HXw.out.1,hcl HXw.out.2.1,hcl HXw.out.2.2⟩)
     have HDo:=Aside0.mk (show ∀W_,Below w1.heap.size w1 W_→Calls Tryd.prog 18 #[.agg #[.int .i64 fl, .slice At tr.length ct], .agg #[.int .i64 x.f2.f0, .int .i64 x.f2.f1, .slice A4 x.f2.f2.length c4]] W_ (DoPost W_ At ct tr a) from fun W_ hW=>by
      have hr:=Kd.R_reads' (Kd.R_below HS1.out.2.2.2 hW)
      have:=do18_calls fl At ct tr x.f2.f0 x.f2.f1 A4 c4 x.f2.f2 W_ hr.2.2 hr.2.1 (Kd.C_below HX4.out.2.1 (below_step HB.out hW)) HX4.out.1 HX4.out.2.2.1 HT.out
      rw [HX4.out.2.2.2];exact this)
     have HX:=Aside0.mk (below_drew (Below.refl w1.heap.size w1))
     refine start_ (n:=14) (S:=fun w'=>Below w1.heap.size w1 w') (ds:=[]) (TG [0,14]) (by kernel_rfl) rfl rfl HX.out (fun hHeld=>?_)
     generalize w1.drew=W0 at HX hHeld ⊢
     apply pu 1 (some 54) [0,1,1,12] rfl rfl (by kernel_rfl) (fun _ _ _ h=>h) (by rfl)
     ·intro w';go_simp;with_reducible rfl
     ·simp only [Act.put,List.setIfInBounds_toArray,List.set_cons_zero,List.set_cons_succ,i64_w];rfl
     apply pu 2 (some 55) [0,1,2,11] rfl rfl (by kernel_rfl) (fun _ _ _ h=>h) (by rfl)
     ·intro w';go_simp;with_reducible rfl
     ·simp only [Act.put,List.setIfInBounds_toArray,List.set_cons_zero,List.set_cons_succ,i64_w];rfl
     apply pu 3 (some 56) [0,1,3,10] rfl rfl (by kernel_rfl) (fun _ _ _ h=>h) (by rfl)
     ·intro w';go_simp;with_reducible rfl
     ·simp only [Act.put,List.setIfInBounds_toArray,List.set_cons_zero,List.set_cons_succ,i64_w];rfl
     apply pu 4 (some 57) [0,1,4,9] rfl rfl (by kernel_rfl) (fun _ _ _ h=>h) (by rfl)
     ·intro w';go_simp;with_reducible rfl
     ·simp only [Act.put,List.setIfInBounds_toArray,List.set_cons_zero,List.set_cons_succ,i64_w];rfl
     apply tk 0 (some 53) [5,9] rfl rfl (by kernel_rfl) (fun _ _ _ h=>h) hHeld (by rfl)
     ·intro w' hS;obtain ⟨z0,z1,x2,x3,x4⟩:=HC.out w' hS;go_simp;with_reducible rfl
     ·simp only [Act.put,List.setIfInBounds_toArray,List.set_cons_zero,List.set_cons_succ,i64_w];rfl
     apply tk 5 (some 58) [6,8] rfl rfl (by kernel_rfl) (fun _ _ _ h=>h) hHeld (by rfl)
     ·intro w' hS;obtain ⟨z0,z1,x2,x3,x4⟩:=HC.out w' hS;go_simp;with_reducible rfl
     ·simp only [Act.put,List.setIfInBounds_toArray,List.set_cons_zero,List.set_cons_succ,i64_w];rfl
     refine join_ (σ:=(Value × Value × Value) × Nat × Nat) 2 (TG [12,2]) (fun s_=>[(59, .tuple #[.agg #[.int .i64 a.1,s_.1.1], .agg #[.int .i64 a.2.2.1, .int .i64 a.2.2.2.1, .int .i64 a.2.2.2.2.1,s_.1.2.1,s_.1.2.2]]),(52, .tuple #[.agg #[.int .i64 a.1,s_.1.1], .agg #[.int .i64 a.2.2.1, .int .i64 a.2.2.2.1, .int .i64 a.2.2.2.2.1,s_.1.2.1,s_.1.2.2]]),(60, .agg #[.int .i64 a.1,s_.1.1]),(61, .agg #[.int .i64 a.2.2.1, .int .i64 a.2.2.2.1, .int .i64 a.2.2.2.2.1,s_.1.2.1,s_.1.2.2]),(9, .pointer (some ⟨s_.2.1,0,none⟩)),(10, .pointer (some ⟨s_.2.2,0,none⟩))]) (fun s_ w'=>Below w1.heap.size w1 w'∧VR w At ct tr a s_.1.1 s_.1.2.1 s_.1.2.2 w'∧(w1.heap.size≤s_.2.1∧w'.heap[s_.2.1]? =some (.cells #[.int .i64 0, .slice none 0 0] 36 (0,0)))∧w1.heap.size≤s_.2.2∧w'.heap[s_.2.2]? =some (.cells #[.int .i64 0, .int .i64 0, .int .i64 0, .slice none 0 0, .slice none 0 0] 39 (0,0))) ?_ ?_
     rotate_left
     ·intro hCont
      refine three_ (i:=6) (j:=10) (k:=11) (Ni:=some 59) (Nj:=some 9) (Nk:=some 10) (TG [7,7]) (TG [6,4,1,3]) (TG [6,5,1,2]) rfl rfl rfl rfl rfl rfl (by kernel_rfl) (by decide) (by decide) (by decide) (fun K hK=>?_) (fun K hK=>?_) (fun K hK=>?_)
      ·skip
       refine goes_ Tryd.func18 (by kernel_rfl) rfl #[.agg #[.int .i64 fl, .slice At tr.length ct], .agg #[.int .i64 x.f2.f0, .int .i64 x.f2.f1, .slice A4 x.f2.f2.length c4]] (by rfl) rfl rfl (by simp only [List.map_toArray,List.map_cons,List.map_nil];rfl) ?_
       with_reducible refine (HDo.out _ HX.out).mono ?_
       rintro e U1 ⟨v1,v5,v6,rfl,hv,h5,h6,hb⟩
       refine ⟨_,rfl,?_⟩
       have HV:=Aside0.mk (VR.of (Nat.le_trans HB.out.size HX.out.size) hv h5 h6)
       replace HX:=Aside0.mk (below_step HX.out hb)
       clear hv h5 h6 hb
       refine hK.out _ _ HX.out (fun hHeld=>?_)
       clear hK K
       refine norm_ (a':=?_) ?_ ?_
       rotate_left
       ·show Act.put _ (some 59) _=_
        simp only [Act.put,List.setIfInBounds_toArray,List.set_cons_zero,List.set_cons_succ,i64_w];rfl
       apply pu 7 (some 52) [8,6] rfl rfl (by kernel_rfl) (fun _ _ _ h=>h) (by rfl)
       ·intro w';go_simp;with_reducible rfl
       ·simp only [Act.put,List.setIfInBounds_toArray,List.set_cons_zero,List.set_cons_succ,i64_w];rfl
       apply pu 8 (some 60) [9,5] rfl rfl (by kernel_rfl) (fun _ _ _ h=>h) (by rfl)
       ·intro w';go_simp;with_reducible rfl
       ·simp only [Act.put,List.setIfInBounds_toArray,List.set_cons_zero,List.set_cons_succ,i64_w];rfl
       apply pu 9 (some 61) [10,4] rfl rfl (by kernel_rfl) (fun _ _ _ h=>h) (by rfl)
       ·intro w';go_simp;with_reducible rfl
       ·simp only [Act.put,List.setIfInBounds_toArray,List.set_cons_zero,List.set_cons_succ,i64_w];rfl
       refine two_ (i:=10) (j:=11) (Ni:=some 9) (Nj:=some 10) (TG [11,3]) (TG [10,1,1,2]) rfl rfl rfl rfl (by kernel_rfl) (by decide) (by decide) (fun K hK=>?_) (fun K hK=>?_)
       ·skip
        refine value_ (w1:=?_) (v:=?_) (by rfl) rfl ?_ ?_
        rotate_left 2
        ·go_simp
         constructor
         ·rfl
         ·rfl
        have HP:=Aside0.mk (And.intro HX.out.size (blk_new U1 (.cells #[.int .i64 0, .slice none 0 0] 36)))
        replace HX:=Aside0.mk (below_step HX.out (below_alloc (Below.refl _ _) (.cells #[.int .i64 0, .slice none 0 0] 36)))
        replace HV:=Aside0.mk (HV.out.below (below_alloc (Below.refl _ _) (.cells #[.int .i64 0, .slice none 0 0] 36)))
        generalize U1.heap.size=ga at HP ⊢
        generalize U1.alloc (.cells #[.int .i64 0, .slice none 0 0] 36)=U2 at HX HV HP ⊢
        refine hK.out _ _ HX.out (fun hHeld=>?_)
        clear hK K
        refine norm_ (a':=?_) ?_ ?_
        rotate_left
        ·show Act.put _ (some 9) _=_
         simp only [Act.put,List.setIfInBounds_toArray,List.set_cons_zero,List.set_cons_succ,i64_w];rfl
        refine one_ (i:=11) (N:=some 10) (TG [12,2]) rfl rfl (by kernel_rfl) (by decide) (fun K hK=>?_)
        refine value_ (w1:=?_) (v:=?_) (by rfl) rfl ?_ ?_
        rotate_left 2
        ·go_simp
         constructor
         ·rfl
         ·rfl
        have HQ:=Aside0.mk (And.intro HX.out.size (blk_new U2 (.cells #[.int .i64 0, .int .i64 0, .int .i64 0, .slice none 0 0, .slice none 0 0] 39)))
        replace HX:=Aside0.mk (below_step HX.out (below_alloc (Below.refl _ _) (.cells #[.int .i64 0, .int .i64 0, .int .i64 0, .slice none 0 0, .slice none 0 0] 39)))
        replace HV:=Aside0.mk (HV.out.below (below_alloc (Below.refl _ _) (.cells #[.int .i64 0, .int .i64 0, .int .i64 0, .slice none 0 0, .slice none 0 0] 39)))
        replace HP:=Aside0.mk (And.intro HP.out.1 (blk_below HP.out.2 (below_alloc (Below.refl _ _) (.cells #[.int .i64 0, .int .i64 0, .int .i64 0, .slice none 0 0, .slice none 0 0] 39))))
        generalize U2.heap.size=gb at HQ ⊢
        generalize U2.alloc (.cells #[.int .i64 0, .int .i64 0, .int .i64 0, .slice none 0 0, .slice none 0 0] 39)=U3 at HX HV HP HQ ⊢
        refine hK.out _ _ HX.out (fun hHeld=>?_)
        clear hK K
        refine norm_ (a':=?_) ?_ ?_
        rotate_left
        ·show Act.put _ (some 10) _=_
         simp only [Act.put,List.setIfInBounds_toArray,List.set_cons_zero,List.set_cons_succ,i64_w];rfl
        exact norm_ (by simp only [putAll,Act.put,List.setIfInBounds_toArray,List.set_cons_zero,List.set_cons_succ]) (hCont ((v1,v5,v6),ga,gb) _ ⟨HX.out,HV.out,HP.out,HQ.out⟩)
       ·skip
        refine value_ (w1:=?_) (v:=?_) (by rfl) rfl ?_ ?_
        rotate_left 2
        ·go_simp
         constructor
         ·rfl
         ·rfl
        have HQ:=Aside0.mk (And.intro HX.out.size (blk_new U1 (.cells #[.int .i64 0, .int .i64 0, .int .i64 0, .slice none 0 0, .slice none 0 0] 39)))
        replace HX:=Aside0.mk (below_step HX.out (below_alloc (Below.refl _ _) (.cells #[.int .i64 0, .int .i64 0, .int .i64 0, .slice none 0 0, .slice none 0 0] 39)))
        replace HV:=Aside0.mk (HV.out.below (below_alloc (Below.refl _ _) (.cells #[.int .i64 0, .int .i64 0, .int .i64 0, .slice none 0 0, .slice none 0 0] 39)))
        generalize U1.heap.size=gb at HQ ⊢
        generalize U1.alloc (.cells #[.int .i64 0, .int .i64 0, .int .i64 0, .slice none 0 0, .slice none 0 0] 39)=U4 at HX HV HQ ⊢
        refine hK.out _ _ HX.out (fun hHeld=>?_)
        clear hK K
        refine norm_ (a':=?_) ?_ ?_
        rotate_left
        ·show Act.put _ (some 10) _=_
         simp only [Act.put,List.setIfInBounds_toArray,List.set_cons_zero,List.set_cons_succ,i64_w];rfl
        refine one_ (i:=10) (N:=some 9) (TG [12,2]) rfl rfl (by kernel_rfl) (by decide) (fun K hK=>?_)
        refine value_ (w1:=?_) (v:=?_) (by rfl) rfl ?_ ?_
        rotate_left 2
        ·go_simp
         constructor
         ·rfl
         ·rfl
        have HP:=Aside0.mk (And.intro HX.out.size (blk_new U4 (.cells #[.int .i64 0, .slice none 0 0] 36)))
        replace HX:=Aside0.mk (below_step HX.out (below_alloc (Below.refl _ _) (.cells #[.int .i64 0, .slice none 0 0] 36)))
        replace HV:=Aside0.mk (HV.out.below (below_alloc (Below.refl _ _) (.cells #[.int .i64 0, .slice none 0 0] 36)))
        replace HQ:=Aside0.mk (And.intro HQ.out.1 (blk_below HQ.out.2 (below_alloc (Below.refl _ _) (.cells #[.int .i64 0, .slice none 0 0] 36))))
        generalize U4.heap.size=ga at HP ⊢
        generalize U4.alloc (.cells #[.int .i64 0, .slice none 0 0] 36)=U5 at HX HV HP HQ ⊢
        refine hK.out _ _ HX.out (fun hHeld=>?_)
        clear hK K
        refine norm_ (a':=?_) ?_ ?_
        rotate_left
        ·show Act.put _ (some 9) _=_
         simp only [Act.put,List.setIfInBounds_toArray,List.set_cons_zero,List.set_cons_succ,i64_w];rfl
        exact norm_ (by simp only [putAll,Act.put,List.setIfInBounds_toArray,List.set_cons_zero,List.set_cons_succ]) (hCont ((v1,v5,v6),ga,gb) _ ⟨HX.out,HV.out,HP.out,HQ.out⟩)
      ·skip
       refine value_ (w1:=?_) (v:=?_) (by rfl) rfl ?_ ?_
       rotate_left 2
       ·go_simp
        constructor
        ·rfl
        ·rfl
       have HP:=Aside0.mk (And.intro HX.out.size (blk_new W0 (.cells #[.int .i64 0, .slice none 0 0] 36)))
       replace HX:=Aside0.mk (below_step HX.out (below_alloc (Below.refl _ _) (.cells #[.int .i64 0, .slice none 0 0] 36)))
       generalize W0.heap.size=ga at HP ⊢
       generalize W0.alloc (.cells #[.int .i64 0, .slice none 0 0] 36)=U6 at HX HP ⊢
       refine hK.out _ _ HX.out (fun hHeld=>?_)
       clear hK K
       refine norm_ (a':=?_) ?_ ?_
       rotate_left
       ·show Act.put _ (some 9) _=_
        simp only [Act.put,List.setIfInBounds_toArray,List.set_cons_zero,List.set_cons_succ,i64_w];rfl
       refine two_ (i:=6) (j:=11) (Ni:=some 59) (Nj:=some 10) (TG [7,3,1,3]) (TG [6,4,2,2]) rfl rfl rfl rfl (by kernel_rfl) (by decide) (by decide) (fun K hK=>?_) (fun K hK=>?_)
       ·skip
        refine goes_ Tryd.func18 (by kernel_rfl) rfl #[.agg #[.int .i64 fl, .slice At tr.length ct], .agg #[.int .i64 x.f2.f0, .int .i64 x.f2.f1, .slice A4 x.f2.f2.length c4]] (by rfl) rfl rfl (by simp only [List.map_toArray,List.map_cons,List.map_nil];rfl) ?_
        with_reducible refine (HDo.out _ HX.out).mono ?_
        rintro e U7 ⟨v1,v5,v6,rfl,hv,h5,h6,hb⟩
        refine ⟨_,rfl,?_⟩
        have HV:=Aside0.mk (VR.of (Nat.le_trans HB.out.size HX.out.size) hv h5 h6)
        replace HX:=Aside0.mk (below_step HX.out hb)
        replace HP:=Aside0.mk (And.intro HP.out.1 (blk_below HP.out.2 hb))
        clear hv h5 h6 hb
        refine hK.out _ _ HX.out (fun hHeld=>?_)
        clear hK K
        refine norm_ (a':=?_) ?_ ?_
        rotate_left
        ·show Act.put _ (some 59) _=_
         simp only [Act.put,List.setIfInBounds_toArray,List.set_cons_zero,List.set_cons_succ,i64_w];rfl
        apply pu 7 (some 52) [8,2,1,3] rfl rfl (by kernel_rfl) (fun _ _ _ h=>h) (by rfl)
        ·intro w';go_simp;with_reducible rfl
        ·simp only [Act.put,List.setIfInBounds_toArray,List.set_cons_zero,List.set_cons_succ,i64_w];rfl
        apply pu 8 (some 60) [9,1,1,3] rfl rfl (by kernel_rfl) (fun _ _ _ h=>h) (by rfl)
        ·intro w';go_simp;with_reducible rfl
        ·simp only [Act.put,List.setIfInBounds_toArray,List.set_cons_zero,List.set_cons_succ,i64_w];rfl
        apply pu 9 (some 61) [11,3] rfl rfl (by kernel_rfl) (fun _ _ _ h=>h) (by rfl)
        ·intro w';go_simp;with_reducible rfl
        ·simp only [Act.put,List.setIfInBounds_toArray,List.set_cons_zero,List.set_cons_succ,i64_w];rfl
        refine one_ (i:=11) (N:=some 10) (TG [12,2]) rfl rfl (by kernel_rfl) (by decide) (fun K hK=>?_)
        refine value_ (w1:=?_) (v:=?_) (by rfl) rfl ?_ ?_
        rotate_left 2
        ·go_simp
         constructor
         ·rfl
         ·rfl
        have HQ:=Aside0.mk (And.intro HX.out.size (blk_new U7 (.cells #[.int .i64 0, .int .i64 0, .int .i64 0, .slice none 0 0, .slice none 0 0] 39)))
        replace HX:=Aside0.mk (below_step HX.out (below_alloc (Below.refl _ _) (.cells #[.int .i64 0, .int .i64 0, .int .i64 0, .slice none 0 0, .slice none 0 0] 39)))
        replace HV:=Aside0.mk (HV.out.below (below_alloc (Below.refl _ _) (.cells #[.int .i64 0, .int .i64 0, .int .i64 0, .slice none 0 0, .slice none 0 0] 39)))
        replace HP:=Aside0.mk (And.intro HP.out.1 (blk_below HP.out.2 (below_alloc (Below.refl _ _) (.cells #[.int .i64 0, .int .i64 0, .int .i64 0, .slice none 0 0, .slice none 0 0] 39))))
        generalize U7.heap.size=gb at HQ ⊢
        generalize U7.alloc (.cells #[.int .i64 0, .int .i64 0, .int .i64 0, .slice none 0 0, .slice none 0 0] 39)=U8 at HX HV HP HQ ⊢
        refine hK.out _ _ HX.out (fun hHeld=>?_)
        clear hK K
        refine norm_ (a':=?_) ?_ ?_
        rotate_left
        ·show Act.put _ (some 10) _=_
         simp only [Act.put,List.setIfInBounds_toArray,List.set_cons_zero,List.set_cons_succ,i64_w];rfl
        exact norm_ (by simp only [putAll,Act.put,List.setIfInBounds_toArray,List.set_cons_zero,List.set_cons_succ]) (hCont ((v1,v5,v6),ga,gb) _ ⟨HX.out,HV.out,HP.out,HQ.out⟩)
       ·skip
        refine value_ (w1:=?_) (v:=?_) (by rfl) rfl ?_ ?_
        rotate_left 2
        ·go_simp
         constructor
         ·rfl
         ·rfl
        have HQ:=Aside0.mk (And.intro HX.out.size (blk_new U6 (.cells #[.int .i64 0, .int .i64 0, .int .i64 0, .slice none 0 0, .slice none 0 0] 39)))
        replace HX:=Aside0.mk (below_step HX.out (below_alloc (Below.refl _ _) (.cells #[.int .i64 0, .int .i64 0, .int .i64 0, .slice none 0 0, .slice none 0 0] 39)))
        replace HP:=Aside0.mk (And.intro HP.out.1 (blk_below HP.out.2 (below_alloc (Below.refl _ _) (.cells #[.int .i64 0, .int .i64 0, .int .i64 0, .slice none 0 0, .slice none 0 0] 39))))
        generalize U6.heap.size=gb at HQ ⊢
        generalize U6.alloc (.cells #[.int .i64 0, .int .i64 0, .int .i64 0, .slice none 0 0, .slice none 0 0] 39)=U9 at HX HP HQ ⊢
        refine hK.out _ _ HX.out (fun hHeld=>?_)
        clear hK K
        refine norm_ (a':=?_) ?_ ?_
        rotate_left
        ·show Act.put _ (some 10) _=_
         simp only [Act.put,List.setIfInBounds_toArray,List.set_cons_zero,List.set_cons_succ,i64_w];rfl
        refine one_ (i:=6) (N:=some 59) (TG [7,3,2,2]) rfl rfl (by kernel_rfl) (by decide) (fun K hK=>?_)
        refine goes_ Tryd.func18 (by kernel_rfl) rfl #[.agg #[.int .i64 fl, .slice At tr.length ct], .agg #[.int .i64 x.f2.f0, .int .i64 x.f2.f1, .slice A4 x.f2.f2.length c4]] (by rfl) rfl rfl (by simp only [List.map_toArray,List.map_cons,List.map_nil];rfl) ?_
        with_reducible refine (HDo.out _ HX.out).mono ?_
        rintro e U10 ⟨v1,v5,v6,rfl,hv,h5,h6,hb⟩
        refine ⟨_,rfl,?_⟩
        have HV:=Aside0.mk (VR.of (Nat.le_trans HB.out.size HX.out.size) hv h5 h6)
        replace HX:=Aside0.mk (below_step HX.out hb)
        replace HP:=Aside0.mk (And.intro HP.out.1 (blk_below HP.out.2 hb))
        replace HQ:=Aside0.mk (And.intro HQ.out.1 (blk_below HQ.out.2 hb))
        clear hv h5 h6 hb
        refine hK.out _ _ HX.out (fun hHeld=>?_)
        clear hK K
        refine norm_ (a':=?_) ?_ ?_
        rotate_left
        ·show Act.put _ (some 59) _=_
         simp only [Act.put,List.setIfInBounds_toArray,List.set_cons_zero,List.set_cons_succ,i64_w];rfl
        apply pu 7 (some 52) [8,2,2,2] rfl rfl (by kernel_rfl) (fun _ _ _ h=>h) (by rfl)
        ·intro w';go_simp;with_reducible rfl
        ·simp only [Act.put,List.setIfInBounds_toArray,List.set_cons_zero,List.set_cons_succ,i64_w];rfl
        apply pu 8 (some 60) [9,1,2,2] rfl rfl (by kernel_rfl) (fun _ _ _ h=>h) (by rfl)
        ·intro w';go_simp;with_reducible rfl
        ·simp only [Act.put,List.setIfInBounds_toArray,List.set_cons_zero,List.set_cons_succ,i64_w];rfl
        apply pu 9 (some 61) [12,2] rfl rfl (by kernel_rfl) (fun _ _ _ h=>h) (by rfl)
        ·intro w';go_simp;with_reducible rfl
        ·simp only [Act.put,List.setIfInBounds_toArray,List.set_cons_zero,List.set_cons_succ,i64_w];rfl
        exact norm_ (by simp only [putAll,Act.put,List.setIfInBounds_toArray,List.set_cons_zero,List.set_cons_succ]) (hCont ((v1,v5,v6),ga,gb) _ ⟨HX.out,HV.out,HP.out,HQ.out⟩)
      ·skip
       refine value_ (w1:=?_) (v:=?_) (by rfl) rfl ?_ ?_
       rotate_left 2
       ·go_simp
        constructor
        ·rfl
        ·rfl
       have HQ:=Aside0.mk (And.intro HX.out.size (blk_new W0 (.cells #[.int .i64 0, .int .i64 0, .int .i64 0, .slice none 0 0, .slice none 0 0] 39)))
       replace HX:=Aside0.mk (below_step HX.out (below_alloc (Below.refl _ _) (.cells #[.int .i64 0, .int .i64 0, .int .i64 0, .slice none 0 0, .slice none 0 0] 39)))
       generalize W0.heap.size=gb at HQ ⊢
       generalize W0.alloc (.cells #[.int .i64 0, .int .i64 0, .int .i64 0, .slice none 0 0, .slice none 0 0] 39)=U11 at HX HQ ⊢
       refine hK.out _ _ HX.out (fun hHeld=>?_)
       clear hK K
       refine norm_ (a':=?_) ?_ ?_
       rotate_left
       ·show Act.put _ (some 10) _=_
        simp only [Act.put,List.setIfInBounds_toArray,List.set_cons_zero,List.set_cons_succ,i64_w];rfl
       refine two_ (i:=6) (j:=10) (Ni:=some 59) (Nj:=some 9) (TG [7,4,1,2]) (TG [6,4,2,2]) rfl rfl rfl rfl (by kernel_rfl) (by decide) (by decide) (fun K hK=>?_) (fun K hK=>?_)
       ·skip
        refine goes_ Tryd.func18 (by kernel_rfl) rfl #[.agg #[.int .i64 fl, .slice At tr.length ct], .agg #[.int .i64 x.f2.f0, .int .i64 x.f2.f1, .slice A4 x.f2.f2.length c4]] (by rfl) rfl rfl (by simp only [List.map_toArray,List.map_cons,List.map_nil];rfl) ?_
        with_reducible refine (HDo.out _ HX.out).mono ?_
        rintro e U12 ⟨v1,v5,v6,rfl,hv,h5,h6,hb⟩
        refine ⟨_,rfl,?_⟩
        have HV:=Aside0.mk (VR.of (Nat.le_trans HB.out.size HX.out.size) hv h5 h6)
        replace HX:=Aside0.mk (below_step HX.out hb)
        replace HQ:=Aside0.mk (And.intro HQ.out.1 (blk_below HQ.out.2 hb))
        clear hv h5 h6 hb
        refine hK.out _ _ HX.out (fun hHeld=>?_)
        clear hK K
        refine norm_ (a':=?_) ?_ ?_
        rotate_left
        ·show Act.put _ (some 59) _=_
         simp only [Act.put,List.setIfInBounds_toArray,List.set_cons_zero,List.set_cons_succ,i64_w];rfl
        apply pu 7 (some 52) [8,3,1,2] rfl rfl (by kernel_rfl) (fun _ _ _ h=>h) (by rfl)
        ·intro w';go_simp;with_reducible rfl
        ·simp only [Act.put,List.setIfInBounds_toArray,List.set_cons_zero,List.set_cons_succ,i64_w];rfl
        apply pu 8 (some 60) [9,2,1,2] rfl rfl (by kernel_rfl) (fun _ _ _ h=>h) (by rfl)
        ·intro w';go_simp;with_reducible rfl
        ·simp only [Act.put,List.setIfInBounds_toArray,List.set_cons_zero,List.set_cons_succ,i64_w];rfl
        apply pu 9 (some 61) [10,1,1,2] rfl rfl (by kernel_rfl) (fun _ _ _ h=>h) (by rfl)
        ·intro w';go_simp;with_reducible rfl
        ·simp only [Act.put,List.setIfInBounds_toArray,List.set_cons_zero,List.set_cons_succ,i64_w];rfl
        refine one_ (i:=10) (N:=some 9) (TG [12,2]) rfl rfl (by kernel_rfl) (by decide) (fun K hK=>?_)
        refine value_ (w1:=?_) (v:=?_) (by rfl) rfl ?_ ?_
        rotate_left 2
        ·go_simp
         constructor
         ·rfl
         ·rfl
        have HP:=Aside0.mk (And.intro HX.out.size (blk_new U12 (.cells #[.int .i64 0, .slice none 0 0] 36)))
        replace HX:=Aside0.mk (below_step HX.out (below_alloc (Below.refl _ _) (.cells #[.int .i64 0, .slice none 0 0] 36)))
        replace HV:=Aside0.mk (HV.out.below (below_alloc (Below.refl _ _) (.cells #[.int .i64 0, .slice none 0 0] 36)))
        replace HQ:=Aside0.mk (And.intro HQ.out.1 (blk_below HQ.out.2 (below_alloc (Below.refl _ _) (.cells #[.int .i64 0, .slice none 0 0] 36))))
        generalize U12.heap.size=ga at HP ⊢
        generalize U12.alloc (.cells #[.int .i64 0, .slice none 0 0] 36)=U13 at HX HV HP HQ ⊢
        refine hK.out _ _ HX.out (fun hHeld=>?_)
        clear hK K
        refine norm_ (a':=?_) ?_ ?_
        rotate_left
        ·show Act.put _ (some 9) _=_
         simp only [Act.put,List.setIfInBounds_toArray,List.set_cons_zero,List.set_cons_succ,i64_w];rfl
        exact norm_ (by simp only [putAll,Act.put,List.setIfInBounds_toArray,List.set_cons_zero,List.set_cons_succ]) (hCont ((v1,v5,v6),ga,gb) _ ⟨HX.out,HV.out,HP.out,HQ.out⟩)
       ·skip
        refine value_ (w1:=?_) (v:=?_) (by rfl) rfl ?_ ?_
        rotate_left 2
        ·go_simp
         constructor
         ·rfl
         ·rfl
        have HP:=Aside0.mk (And.intro HX.out.size (blk_new U11 (.cells #[.int .i64 0, .slice none 0 0] 36)))
        replace HX:=Aside0.mk (below_step HX.out (below_alloc (Below.refl _ _) (.cells #[.int .i64 0, .slice none 0 0] 36)))
        replace HQ:=Aside0.mk (And.intro HQ.out.1 (blk_below HQ.out.2 (below_alloc (Below.refl _ _) (.cells #[.int .i64 0, .slice none 0 0] 36))))
        generalize U11.heap.size=ga at HP ⊢
        generalize U11.alloc (.cells #[.int .i64 0, .slice none 0 0] 36)=U14 at HX HP HQ ⊢
        refine hK.out _ _ HX.out (fun hHeld=>?_)
        clear hK K
        refine norm_ (a':=?_) ?_ ?_
        rotate_left
        ·show Act.put _ (some 9) _=_
         simp only [Act.put,List.setIfInBounds_toArray,List.set_cons_zero,List.set_cons_succ,i64_w];rfl
        refine one_ (i:=6) (N:=some 59) (TG [7,3,2,2]) rfl rfl (by kernel_rfl) (by decide) (fun K hK=>?_)
        refine goes_ Tryd.func18 (by kernel_rfl) rfl #[.agg #[.int .i64 fl, .slice At tr.length ct], .agg #[.int .i64 x.f2.f0, .int .i64 x.f2.f1, .slice A4 x.f2.f2.length c4]] (by rfl) rfl rfl (by simp only [List.map_toArray,List.map_cons,List.map_nil];rfl) ?_
        with_reducible refine (HDo.out _ HX.out).mono ?_
        rintro e U15 ⟨v1,v5,v6,rfl,hv,h5,h6,hb⟩
        refine ⟨_,rfl,?_⟩
        have HV:=Aside0.mk (VR.of (Nat.le_trans HB.out.size HX.out.size) hv h5 h6)
        replace HX:=Aside0.mk (below_step HX.out hb)
        replace HP:=Aside0.mk (And.intro HP.out.1 (blk_below HP.out.2 hb))
        replace HQ:=Aside0.mk (And.intro HQ.out.1 (blk_below HQ.out.2 hb))
        clear hv h5 h6 hb
        refine hK.out _ _ HX.out (fun hHeld=>?_)
        clear hK K
        refine norm_ (a':=?_) ?_ ?_
        rotate_left
        ·show Act.put _ (some 59) _=_
         simp only [Act.put,List.setIfInBounds_toArray,List.set_cons_zero,List.set_cons_succ,i64_w];rfl
        apply pu 7 (some 52) [8,2,2,2] rfl rfl (by kernel_rfl) (fun _ _ _ h=>h) (by rfl)
        ·intro w';go_simp;with_reducible rfl
        ·simp only [Act.put,List.setIfInBounds_toArray,List.set_cons_zero,List.set_cons_succ,i64_w];rfl
        apply pu 8 (some 60) [9,1,2,2] rfl rfl (by kernel_rfl) (fun _ _ _ h=>h) (by rfl)
        ·intro w';go_simp;with_reducible rfl
        ·simp only [Act.put,List.setIfInBounds_toArray,List.set_cons_zero,List.set_cons_succ,i64_w];rfl
        apply pu 9 (some 61) [12,2] rfl rfl (by kernel_rfl) (fun _ _ _ h=>h) (by rfl)
        ·intro w';go_simp;with_reducible rfl
        ·simp only [Act.put,List.setIfInBounds_toArray,List.set_cons_zero,List.set_cons_succ,i64_w];rfl
        exact norm_ (by simp only [putAll,Act.put,List.setIfInBounds_toArray,List.set_cons_zero,List.set_cons_succ]) (hCont ((v1,v5,v6),ga,gb) _ ⟨HX.out,HV.out,HP.out,HQ.out⟩)
     clear HX
     rintro ⟨⟨v1,v5,v6⟩,ga,gb⟩ U ⟨hX,hV,⟨hpa,hP⟩,hqa,hQ⟩
     dsimp only at hX hV hP hQ ⊢
     obtain ⟨⟨B1,k1,rfl⟩,⟨B5,k5,rfl⟩,⟨B6,k6,rfl⟩⟩:=hV.sl
     refine norm_ (by simp only [putAll,Act.put,List.setIfInBounds_toArray,List.set_cons_zero,List.set_cons_succ];rfl) ?_
     have hne:ga≠gb:=fun e=>by rw [e,hQ] at hP;simp at hP
     obtain ⟨⟨z0,z1⟩,y0,y1⟩:=cells2 hP
     obtain ⟨t1,t2⟩:=st2 hP (.int .i64 a.1)
     refine one_ (i:=12) (N:=none) (TG [13,1]) rfl rfl (by kernel_rfl) (by decide) (fun K hK=>?_)
     refine skip_ (w1:=?_) (by rfl) rfl ?_ ?_
     rotate_left
     ·go_simp
      rfl
     obtain ⟨hP1,ho,hb⟩:=put2 hP (.int .i64 a.1) (.slice B1 a.2.1.length k1)
     replace hX:=hb w1 hX hpa
     replace hV:=hV.only hP (by decide) (by decide) ho
     replace hQ:=(ho gb hne.symm).trans hQ
     generalize (U.setCell ⟨ga,0,none⟩ (.int .i64 a.1)).setCell ⟨ga,1,none⟩ (.slice B1 a.2.1.length k1)=U1 at hP1 hX hV hQ ⊢
     clear ho hb hP z0 z1 y0 y1 t1 t2
     refine hK.out _ _ hX (fun hHeld=>?_)
     clear hK K
     obtain ⟨⟨z0,z1,z2,z3,z4⟩,yf⟩:=cells5 hQ
     have y0:=yf 0
     obtain ⟨t1,u1,t2,u2,t3,u3,t4,u4⟩:=st5 hQ (.int .i64 a.2.2.1) (.int .i64 a.2.2.2.1) (.int .i64 a.2.2.2.2.1) (.slice B5 a.2.2.2.2.2.1.length k5)
     refine one_ (i:=13) (N:=none) (TG [14]) rfl rfl (by kernel_rfl) (by decide) (fun K hK=>?_)
     refine skip_ (w1:=?_) (by rfl) rfl ?_ ?_
     rotate_left
     ·go_simp
      rfl
     obtain ⟨hQ1,ho,hb⟩:=put5 hQ (.int .i64 a.2.2.1) (.int .i64 a.2.2.2.1) (.int .i64 a.2.2.2.2.1) (.slice B5 a.2.2.2.2.2.1.length k5) (.slice B6 a.2.2.2.2.2.2.length k6)
     replace hX:=hb w1 hX hqa
     replace hV:=hV.only hQ (by decide) (by decide) ho
     replace hP1:=(ho ga hne).trans hP1
     generalize ((((U1.setCell ⟨gb,0,none⟩ (.int .i64 a.2.2.1)).setCell ⟨gb,1,none⟩ (.int .i64 a.2.2.2.1)).setCell ⟨gb,2,none⟩ (.int .i64 a.2.2.2.2.1)).setCell ⟨gb,3,none⟩ (.slice B5 a.2.2.2.2.2.1.length k5)).setCell ⟨gb,4,none⟩ (.slice B6 a.2.2.2.2.2.2.length k6)=U2 at hP1 hX hV hQ1 ⊢
     clear ho hb hQ z0 z1 z2 z3 z4 y0 t1 t2 t3 t4 u1 u2 u3 u4 yf hHeld
     refine hK.out _ _ hX (fun hHeld=>?_)
     clear hK K hHeld
     refine done_ (by kernel_rfl) ?_
     have HU:=Aside0.mk hX
     have HV:=Aside0.mk hV
     have HP:=Aside0.mk hP1
     have HQ:=Aside0.mk hQ1
     have HGa:=Aside0.mk (And.intro hpa hqa)
     clear hX hV hP1 hQ1 hpa hqa
     have HS2:=Aside0.mk (HS1.out.below HU.out)
     have hls:j < (l.map strip).length:=by rw [List.length_map];exact HJ.out.1
     have HId:=Aside0.mk (idle_calls g Ac cc (l.map strip) (some ⟨gd,0,none⟩) c5 dn 0 (.slice none 0 0) U2 HS2.out.1.fst j hls)
     rw [rd_strip, ← HXs.out,idle_strip] at HId
     have HLs:=Aside0.mk hls
     clear hls HS1 HDo HC
     cases h5:idleB x<;>rw [h5] at HId
     all_goals
      go_wp2_with (first|(go_at_call 39;(with_reducible refine HId.out.mono ?_);rintro e w4 ⟨rfl,hb⟩;have HS4:=Aside0.mk (HS2.out.below hb);replace HV:=Aside0.mk (HV.out.below hb);replace HP:=Aside0.mk (blk_below HP.out hb);replace HQ:=Aside0.mk (blk_below HQ.out hb);clear hb HS2))
      obtain ⟨adS,B4,k4,B8,k8,B9,k9,eS,s0,s1,s2,s3,s4,s5,s6,s7,s8,s9, -, -,l8,g8, -⟩:=at_T45 HS4.out.1.fst.2.1 (j:Int) (by omega) (by have:=HLs.out;omega)
      cases eS
      rw [Int.toNat_natCast,rd_strip, ← HXs.out] at s5 s6 s7 s8 s9
      rw [rd_strip, ← HXs.out] at l8 g8
      change _=some (Value.int .i64 x.f3.f0) at s5
      change _=some (Value.int .i64 x.f3.f1) at s6
      change _=some (Value.int .i64 x.f3.f2) at s7
      change _=some (Value.slice B8 x.f3.f3.length k8) at s8
      change Kd.C k66 w4 B8 x.f3.f3.length x.f3.f3 at g8
      generalize Value.slice B9 (strip x).f3.f4.length k9=v9 at s9
      obtain ⟨f0,f1,f2,f3⟩:=HS4.out.1.cells
      rw [List.length_map] at f0 f1
      have HC2:=Aside0.mk (show ∀w',Below w4.heap.size w4 w'→w'.cell? ⟨gb,0,none⟩=some (.int .i64 a.2.2.1)∧w'.cell? ⟨gb,1,none⟩=some (.int .i64 a.2.2.2.1)∧w'.cell? ⟨gb,2,none⟩=some (.int .i64 a.2.2.2.2.1)∧w'.cell? ⟨gb,3,none⟩=some (.slice B5 a.2.2.2.2.2.1.length k5)∧w'.cell? ⟨gb,4,none⟩=some (.slice B6 a.2.2.2.2.2.2.length k6)∧w'.cell? ⟨g,0,none⟩=some (.slice (some adS) l.length cc)∧w'.cell? ⟨(adS.add (j*10)).block,(adS.add (j*10)).off+5,none⟩=some (.int .i64 x.f3.f0)∧w'.cell? ⟨(adS.add (j*10)).block,(adS.add (j*10)).off+6,none⟩=some (.int .i64 x.f3.f1)∧w'.cell? ⟨(adS.add (j*10)).block,(adS.add (j*10)).off+7,none⟩=some (.int .i64 x.f3.f2)∧w'.cell? ⟨(adS.add (j*10)).block,(adS.add (j*10)).off+8,none⟩=some (.slice B8 x.f3.f3.length k8)∧w'.cell? ⟨(adS.add (j*10)).block,(adS.add (j*10)).off+9,none⟩=some (v9) from fun w' hS=>by
       have hcl: ∀{q v},w4.cell? q=some v→w'.cell? q=some v:=fun {q v} h=>(hS.cell (World.block_lt_of_cell? w4 _ h)).trans h
       have hq:=(cells5 (blk_below HQ.out hS)).1
       exact ⟨hq.1,hq.2.1,hq.2.2.1,hq.2.2.2.1,hq.2.2.2.2,hcl f0,hcl s5,hcl s6,hcl s7,hcl s8,hcl s9⟩)
      have HSm2:=Aside0.mk (show ∀W_,Below w4.heap.size w4 W_→_ from fun W_ hW=>same40_calls a.2.2.1 a.2.2.2.1 a.2.2.2.2.1 B5 k5 a.2.2.2.2.2.1 (.slice B6 a.2.2.2.2.2.2.length k6) x.f3.f0 x.f3.f1 x.f3.f2 B8 k8 x.f3.f3 v9 W_ (Kd.R_reads' (Kd.R_below HV.out.2.1 hW)).2.2 (Kd.C_below g8 hW))
      clear s0 s1 s2 s3 s4 s5 s6 s7 s8 s9 f0 f1 f2 f3 l8 g8
     ·have HR:=Aside0.mk (show saysB x a=(sameB a.2.2.1 a.2.2.2.1 a.2.2.2.2.1 a.2.2.2.2.2.1 x.f3.f0 x.f3.f1 x.f3.f2 x.f3.f3) by unfold saysB;rw [if_neg (by rw [h5];decide)])
      refine start_ (n:=23) (S:=fun w'=>Below w4.heap.size w4 w') (ds:=[]) (TG [0,23]) (by kernel_rfl) rfl rfl (below_drew (Below.refl _ _)) (fun hHeld=>?_)
      apply pu 0 (some 65) [1,22] rfl rfl (by kernel_rfl) (fun _ _ _ h=>h) (by rfl)
      ·intro w';go_simp;with_reducible rfl
      ·simp only [Act.put,List.setIfInBounds_toArray,List.set_cons_zero,List.set_cons_succ,i64_w];rfl
      apply pu 1 (some 66) [2,21] rfl rfl (by kernel_rfl) (fun _ _ _ h=>h) (by rfl)
      ·intro w';go_simp;with_reducible rfl
      ·simp only [Act.put,List.setIfInBounds_toArray,List.set_cons_zero,List.set_cons_succ,i64_w];rfl
      apply pn 2 (some 67) [3,20] rfl rfl (by kernel_rfl) (fun _ _ _ h=>h) (by rfl)
      ·simp only [Act.put,List.setIfInBounds_toArray,List.set_cons_zero,List.set_cons_succ,i64_w];rfl
      apply pn 3 (some 68) [4,19] rfl rfl (by kernel_rfl) (fun _ _ _ h=>h) (by rfl)
      ·simp only [Act.put,List.setIfInBounds_toArray,List.set_cons_zero,List.set_cons_succ,i64_w];rfl
      apply pn 4 (some 69) [5,18] rfl rfl (by kernel_rfl) (fun _ _ _ h=>h) (by rfl)
      ·simp only [Act.put,List.setIfInBounds_toArray,List.set_cons_zero,List.set_cons_succ,i64_w];rfl
      apply pu 5 (some 70) [6,17] rfl rfl (by kernel_rfl) (fun _ _ _ h=>h) (by rfl)
      ·intro w';go_simp;with_reducible rfl
      ·simp only [Act.put,List.setIfInBounds_toArray,List.set_cons_zero,List.set_cons_succ,i64_w];rfl
      apply pu 6 (some 71) [7,16] rfl rfl (by kernel_rfl) (fun _ _ _ h=>h) (by rfl)
      ·intro w';go_simp;with_reducible rfl
      ·simp only [Act.put,List.setIfInBounds_toArray,List.set_cons_zero,List.set_cons_succ,i64_w];rfl
      apply pu 7 (some 72) [8,15] rfl rfl (by kernel_rfl) (fun _ _ _ h=>h) (by rfl)
      ·intro w';go_simp;with_reducible rfl
      ·simp only [Act.put,List.setIfInBounds_toArray,List.set_cons_zero,List.set_cons_succ,i64_w];rfl
      apply pu 8 (some 73) [9,14] rfl rfl (by kernel_rfl) (fun _ _ _ h=>h) (by rfl)
      ·intro w';go_simp;with_reducible rfl
      ·simp only [Act.put,List.setIfInBounds_toArray,List.set_cons_zero,List.set_cons_succ,i64_w];rfl
      apply pu 9 (some 74) [10,13] rfl rfl (by kernel_rfl) (fun _ _ _ h=>h) (by rfl)
      ·intro w';go_simp;with_reducible rfl
      ·simp only [Act.put,List.setIfInBounds_toArray,List.set_cons_zero,List.set_cons_succ,i64_w];rfl
      apply pu 11 (some 76) [10,1,1,11] rfl rfl (by kernel_rfl) (fun _ _ _ h=>h) (by rfl)
      ·intro w';go_simp;with_reducible rfl
      ·simp only [Act.put,List.setIfInBounds_toArray,List.set_cons_zero,List.set_cons_succ,i64_w];rfl
      apply pu 12 (some 77) [10,1,2,10] rfl rfl (by kernel_rfl) (fun _ _ _ h=>h) (by rfl)
      ·intro w';go_simp;with_reducible rfl
      ·simp only [Act.put,List.setIfInBounds_toArray,List.set_cons_zero,List.set_cons_succ,i64_w];rfl
      apply pu 13 (some 78) [10,1,3,9] rfl rfl (by kernel_rfl) (fun _ _ _ h=>h) (by rfl)
      ·intro w';go_simp;with_reducible rfl
      ·simp only [Act.put,List.setIfInBounds_toArray,List.set_cons_zero,List.set_cons_succ,i64_w];rfl
      apply pu 15 (some 80) [10,1,3,1,1,7] rfl rfl (by kernel_rfl) (fun _ _ _ h=>h) (by rfl)
      ·intro w';go_simp;with_reducible rfl
      ·simp only [Act.put,List.setIfInBounds_toArray,List.set_cons_zero,List.set_cons_succ,i64_w];rfl
      apply tk 10 (some 75) [14,1,1,7] rfl rfl (by kernel_rfl) (fun _ _ _ h=>h) hHeld (by rfl)
      ·intro w' hS;obtain ⟨q0,q1,q2,q3,q4,q5,q6,q7,q8,q9,q10⟩:=HC2.out w' hS;go_simp;with_reducible rfl
      ·simp only [Act.put,List.setIfInBounds_toArray,List.set_cons_zero,List.set_cons_succ,i64_w];rfl
      apply tk 14 (some 79) [16,7] rfl rfl (by kernel_rfl) (fun _ _ _ h=>h) hHeld (by rfl)
      ·intro w' hS;obtain ⟨q0,q1,q2,q3,q4,q5,q6,q7,q8,q9,q10⟩:=HC2.out w' hS;go_simp;with_reducible rfl
      ·simp only [Act.put,List.setIfInBounds_toArray,List.set_cons_zero,List.set_cons_succ,i64_w];rfl
      apply pu 16 (some 81) [17,6] rfl rfl (by kernel_rfl) (fun _ _ _ h=>h) (by rfl)
      ·intro w';go_simp;with_reducible rfl
      ·simp only [Act.put,List.setIfInBounds_toArray,List.set_cons_zero,List.set_cons_succ,i64_w];rfl
      apply pu 17 (some 82) [18,5] rfl rfl (by kernel_rfl) (fun _ _ _ h=>h) (by rfl)
      ·intro w';go_simp;with_reducible rfl
      ·simp only [Act.put,List.setIfInBounds_toArray,List.set_cons_zero,List.set_cons_succ,i64_w];rfl
      apply tk 18 (some 83) [19,4] rfl rfl (by kernel_rfl) (fun _ _ _ h=>h) hHeld (by rfl)
      ·intro w' hS;obtain ⟨q0,q1,q2,q3,q4,q5,q6,q7,q8,q9,q10⟩:=HC2.out w' hS;go_simp;with_reducible rfl
      ·simp only [Act.put,List.setIfInBounds_toArray,List.set_cons_zero,List.set_cons_succ,i64_w];rfl
      refine one_ (i:=19) (N:=some 84) (TG [20,3]) rfl rfl (by kernel_rfl) (by decide) (fun K hK=>?_)
      refine goes_ Tryd.func40 (by kernel_rfl) rfl #[.agg #[.int .i64 a.2.2.1, .int .i64 a.2.2.2.1, .int .i64 a.2.2.2.2.1, .slice B5 a.2.2.2.2.2.1.length k5, .slice B6 a.2.2.2.2.2.2.length k6], .agg #[.int .i64 x.f3.f0, .int .i64 x.f3.f1, .int .i64 x.f3.f2, .slice B8 x.f3.f3.length k8,v9]] (by rfl) rfl rfl (by simp only [List.map_toArray,List.map_cons,List.map_nil];rfl) ?_
      with_reducible refine (HSm2.out _ hHeld).mono ?_
      rintro e w9 ⟨rfl,hb⟩
      refine ⟨_,rfl,?_⟩
      refine hK.out _ _ (below_step hHeld hb) (fun hHeld=>?_)
      clear hK K
      refine norm_ (a':=?_) ?_ ?_
      rotate_left
      ·show Act.put _ (some 84) _=_
       simp only [Act.put,List.setIfInBounds_toArray,List.set_cons_zero,List.set_cons_succ,i64_w];rfl
      apply pu 20 (some 85) [21,2] rfl rfl (by kernel_rfl) (fun _ _ _ h=>h) (by rfl)
      ·intro w';go_simp;with_reducible rfl
      ·simp only [Act.put,List.setIfInBounds_toArray,List.set_cons_zero,List.set_cons_succ,i64_w];rfl
      apply pu 21 (some 86) [22,1] rfl rfl (by kernel_rfl) (fun _ _ _ h=>h) (by rfl)
      ·intro w';go_simp;with_reducible rfl
      ·simp only [Act.put,List.setIfInBounds_toArray,List.set_cons_zero,List.set_cons_succ,i64_w];rfl
      apply pu 22 (some 87) [23] rfl rfl (by kernel_rfl) (fun _ _ _ h=>h) (by rfl)
      ·intro w';go_simp;with_reducible rfl
      ·simp only [Act.put,List.setIfInBounds_toArray,List.set_cons_zero,List.set_cons_succ,i64_w];rfl
      refine done_ (by kernel_rfl) ?_
      have H9:=Aside0.mk hHeld
      clear hHeld
      cases h6:sameB a.2.2.1 a.2.2.2.1 a.2.2.2.2.1 a.2.2.2.2.2.1 x.f3.f0 x.f3.f1 x.f3.f2 x.f3.f3<;>rw [h6] at HR
      ·skip
       have HO3:=Aside0.mk (show holdsB l order=false by rw [HO2.out,HR.out];rfl)
       have HB9:=Aside0.mk (below_step HS4.out.1.2.2.2.1 H9.out)
       go_wp2_with fail
       go_ret
       exact ⟨by rw [HO3.out];rfl,HB9.out⟩
      ·skip
       have HO3:=Aside0.mk (show holdsB l order=holdsL l (order.drop (k+1)) (dn.set j true) a.1 a.2.1 by rw [HO2.out,HR.out,if_pos rfl])
       have HS9:=Aside0.mk (HS4.out.below H9.out)
       have hV:Kd.R Kd.string 9 w9 w.heap.size (fun _=>True) (.slice B1 a.2.1.length k1) a.2.1:=(HV.out.below H9.out).1.elim (fun h=>by rw [h.1,h.2];exact HS9.out.2.2.2) id
       have HV9:=Aside0.mk hV
       have hpa:ga≠gd:=fun e=>Kd.R_ne HS9.out.1.2.2.2.2.2.1 (blk_below HP.out H9.out) (by decide) (by rw [e];rfl)
       have hpg:gd≠g6:=fun e=>Kd.R_ne HS9.out.1.2.2.2.2.2.1 HS9.out.2.1 (by decide) (by rw [e];rfl)
       have hq:(w9.setCell ⟨gd,j,none⟩ (.bool true)).heap[ga]? =some (.cells #[.int .i64 a.1, .slice B1 a.2.1.length k1] 36 (0,0)):=blk_far (blk_below HP.out H9.out) hpa _
       have hg6:(w9.setCell ⟨gd,j,none⟩ (.bool true)).heap[g6]? =some (.cells #[.int .i64 fl, .slice At tr.length ct] 36 (0,0)):=blk_far HS9.out.2.1 hpg.symm _
       obtain ⟨f0,f1,f2,f3⟩:=HS9.out.1.cells
       rw [List.length_map] at f0 f1
       obtain ⟨d0,d1⟩:=Kd.R_celln (enc:=Value.bool) (h1:=fun _=>rfl) false HS9.out.1.2.2.2.2.2.1 (j:Int) (by omega) (by have:=HLs.out;omega)
       rw [Int.toNat_natCast] at d0 d1
       obtain ⟨⟨m0,m1⟩, -⟩:=cells2 hq
       obtain ⟨⟨n0,n1⟩,n2,n3⟩:=cells2 hg6
       obtain ⟨t1,t2⟩:=st2 hg6 (.int .i64 a.1)
       clear hV hq hg6 hpa hpg
       go_wp2_with fail
       have HS3:=Aside0.mk (HS9.out.step j HJ.out.2 (fl':=a.1) HV9.out)
       go_roundg (order.length - k)
       case measure=>have:=HG.out.2;omega
       case rel=>exact ⟨k+1,dn.set j true,a.1,B1,k1,a.2.1,by go_num,⟨by have:=HG.out;omega⟩,HS3,⟨by rw [HO3.out]⟩,⟨by rw [List.length_set];exact HN.out.1,by have:=HNl.out;have:=HN.out.2;have:=HC1.out;omega⟩⟩
     ·have HR:=Aside0.mk (show saysB x a=(a.2.2.1 == 0) by unfold saysB;rw [if_pos h5])
      have h7:(a.2.2.1 != 0)= !(a.2.2.1 == 0):=rfl
      cases h6:a.2.2.1 == 0<;>rw [h6] at HR h7
      ·skip
       refine start_ (n:=23) (S:=fun w'=>Below w4.heap.size w4 w') (ds:=[]) (TG [0,23]) (by kernel_rfl) rfl rfl (below_drew (Below.refl _ _)) (fun hHeld=>?_)
       apply pu 0 (some 65) [1,22] rfl rfl (by kernel_rfl) (fun _ _ _ h=>h) (by rfl)
       ·intro w';go_simp;with_reducible rfl
       ·simp only [Act.put,List.setIfInBounds_toArray,List.set_cons_zero,List.set_cons_succ,i64_w];rfl
       apply pu 1 (some 66) [2,21] rfl rfl (by kernel_rfl) (fun _ _ _ h=>h) (by rfl)
       ·intro w';go_simp;with_reducible rfl
       ·simp only [Act.put,List.setIfInBounds_toArray,List.set_cons_zero,List.set_cons_succ,i64_w];rfl
       apply pu 2 (some 67) [3,20] rfl rfl (by kernel_rfl) (fun _ _ _ h=>h) (by rfl)
       ·intro w';go_simp;with_reducible rfl
       ·simp only [Act.put,List.setIfInBounds_toArray,List.set_cons_zero,List.set_cons_succ,i64_w];rfl
       apply tk 3 (some 68) [4,19] rfl rfl (by kernel_rfl) (fun _ _ _ h=>h) hHeld (by rfl)
       ·intro w' hS;obtain ⟨q0,q1,q2,q3,q4,q5,q6,q7,q8,q9,q10⟩:=HC2.out w' hS;go_simp;with_reducible rfl
       ·simp only [Act.put,List.setIfInBounds_toArray,List.set_cons_zero,List.set_cons_succ,i64_w];rfl
       apply pu 4 (some 69) [5,18] rfl rfl (by kernel_rfl) (fun _ _ _ h=>h) (by rfl)
       ·intro w';go_simp;with_reducible rfl
       ·simp only [Act.put,List.setIfInBounds_toArray,List.set_cons_zero,List.set_cons_succ,i64_w];rfl
       apply pu 5 (some 70) [6,17] rfl rfl (by kernel_rfl) (fun _ _ _ h=>h) (by rfl)
       ·intro w';go_simp;with_reducible rfl
       ·simp only [Act.put,List.setIfInBounds_toArray,List.set_cons_zero,List.set_cons_succ,i64_w];rfl
       apply pu 6 (some 71) [7,16] rfl rfl (by kernel_rfl) (fun _ _ _ h=>h) (by rfl)
       ·intro w';go_simp;with_reducible rfl
       ·simp only [Act.put,List.setIfInBounds_toArray,List.set_cons_zero,List.set_cons_succ,i64_w];rfl
       apply pn 7 (some 72) [8,15] rfl rfl (by kernel_rfl) (fun _ _ _ h=>h) (by rfl)
       ·simp only [Act.put,List.setIfInBounds_toArray,List.set_cons_zero,List.set_cons_succ,i64_w];rfl
       apply pn 8 (some 73) [9,14] rfl rfl (by kernel_rfl) (fun _ _ _ h=>h) (by rfl)
       ·simp only [Act.put,List.setIfInBounds_toArray,List.set_cons_zero,List.set_cons_succ,i64_w];rfl
       apply pn 9 (some 74) [10,13] rfl rfl (by kernel_rfl) (fun _ _ _ h=>h) (by rfl)
       ·simp only [Act.put,List.setIfInBounds_toArray,List.set_cons_zero,List.set_cons_succ,i64_w];rfl
       apply pn 10 (some 75) [11,12] rfl rfl (by kernel_rfl) (fun _ _ _ h=>h) (by rfl)
       ·simp only [Act.put,List.setIfInBounds_toArray,List.set_cons_zero,List.set_cons_succ,i64_w];rfl
       apply pn 11 (some 76) [12,11] rfl rfl (by kernel_rfl) (fun _ _ _ h=>h) (by rfl)
       ·simp only [Act.put,List.setIfInBounds_toArray,List.set_cons_zero,List.set_cons_succ,i64_w];rfl
       apply pn 12 (some 77) [13,10] rfl rfl (by kernel_rfl) (fun _ _ _ h=>h) (by rfl)
       ·simp only [Act.put,List.setIfInBounds_toArray,List.set_cons_zero,List.set_cons_succ,i64_w];rfl
       apply pn 13 (some 78) [14,9] rfl rfl (by kernel_rfl) (fun _ _ _ h=>h) (by rfl)
       ·simp only [Act.put,List.setIfInBounds_toArray,List.set_cons_zero,List.set_cons_succ,i64_w];rfl
       apply pn 14 (some 79) [15,8] rfl rfl (by kernel_rfl) (fun _ _ _ h=>h) (by rfl)
       ·simp only [Act.put,List.setIfInBounds_toArray,List.set_cons_zero,List.set_cons_succ,i64_w];rfl
       apply pn 15 (some 80) [16,7] rfl rfl (by kernel_rfl) (fun _ _ _ h=>h) (by rfl)
       ·simp only [Act.put,List.setIfInBounds_toArray,List.set_cons_zero,List.set_cons_succ,i64_w];rfl
       apply pn 16 (some 81) [17,6] rfl rfl (by kernel_rfl) (fun _ _ _ h=>h) (by rfl)
       ·simp only [Act.put,List.setIfInBounds_toArray,List.set_cons_zero,List.set_cons_succ,i64_w];rfl
       apply pn 17 (some 82) [18,5] rfl rfl (by kernel_rfl) (fun _ _ _ h=>h) (by rfl)
       ·simp only [Act.put,List.setIfInBounds_toArray,List.set_cons_zero,List.set_cons_succ,i64_w];rfl
       apply pn 18 (some 83) [19,4] rfl rfl (by kernel_rfl) (fun _ _ _ h=>h) (by rfl)
       ·simp only [Act.put,List.setIfInBounds_toArray,List.set_cons_zero,List.set_cons_succ,i64_w];rfl
       apply pn 19 (some 84) [20,3] rfl rfl (by kernel_rfl) (fun _ _ _ h=>h) (by rfl)
       ·simp only [Act.put,List.setIfInBounds_toArray,List.set_cons_zero,List.set_cons_succ,i64_w];rfl
       apply pn 20 (some 85) [21,2] rfl rfl (by kernel_rfl) (fun _ _ _ h=>h) (by rfl)
       ·simp only [Act.put,List.setIfInBounds_toArray,List.set_cons_zero,List.set_cons_succ,i64_w];rfl
       apply pn 21 (some 86) [22,1] rfl rfl (by kernel_rfl) (fun _ _ _ h=>h) (by rfl)
       ·simp only [Act.put,List.setIfInBounds_toArray,List.set_cons_zero,List.set_cons_succ,i64_w];rfl
       apply pu 22 (some 87) [23] rfl rfl (by kernel_rfl) (fun _ _ _ h=>h) (by rfl)
       ·intro w';go_simp;with_reducible rfl
       ·simp only [Act.put,List.setIfInBounds_toArray,List.set_cons_zero,List.set_cons_succ,i64_w];rfl
       refine done_ (by kernel_rfl) ?_
       have H9:=Aside0.mk hHeld
       generalize w4.drew=w9 at H9 ⊢
       clear hHeld
       have HO3:=Aside0.mk (show holdsB l order=false by rw [HO2.out,HR.out];rfl)
       have HB9:=Aside0.mk (below_step HS4.out.1.2.2.2.1 H9.out)
       go_wp2_with fail
       go_ret
       exact ⟨by rw [HO3.out];rfl,HB9.out⟩
      ·skip
       refine start_ (n:=23) (S:=fun w'=>Below w4.heap.size w4 w') (ds:=[]) (TG [0,23]) (by kernel_rfl) rfl rfl (below_drew (Below.refl _ _)) (fun hHeld=>?_)
       apply pu 0 (some 65) [1,22] rfl rfl (by kernel_rfl) (fun _ _ _ h=>h) (by rfl)
       ·intro w';go_simp;with_reducible rfl
       ·simp only [Act.put,List.setIfInBounds_toArray,List.set_cons_zero,List.set_cons_succ,i64_w];rfl
       apply pu 1 (some 66) [2,21] rfl rfl (by kernel_rfl) (fun _ _ _ h=>h) (by rfl)
       ·intro w';go_simp;with_reducible rfl
       ·simp only [Act.put,List.setIfInBounds_toArray,List.set_cons_zero,List.set_cons_succ,i64_w];rfl
       apply pu 2 (some 67) [3,20] rfl rfl (by kernel_rfl) (fun _ _ _ h=>h) (by rfl)
       ·intro w';go_simp;with_reducible rfl
       ·simp only [Act.put,List.setIfInBounds_toArray,List.set_cons_zero,List.set_cons_succ,i64_w];rfl
       apply tk 3 (some 68) [4,19] rfl rfl (by kernel_rfl) (fun _ _ _ h=>h) hHeld (by rfl)
       ·intro w' hS;obtain ⟨q0,q1,q2,q3,q4,q5,q6,q7,q8,q9,q10⟩:=HC2.out w' hS;go_simp;with_reducible rfl
       ·simp only [Act.put,List.setIfInBounds_toArray,List.set_cons_zero,List.set_cons_succ,i64_w];rfl
       apply pu 4 (some 69) [5,18] rfl rfl (by kernel_rfl) (fun _ _ _ h=>h) (by rfl)
       ·intro w';go_simp;with_reducible rfl
       ·simp only [Act.put,List.setIfInBounds_toArray,List.set_cons_zero,List.set_cons_succ,i64_w];rfl
       apply pu 5 (some 70) [6,17] rfl rfl (by kernel_rfl) (fun _ _ _ h=>h) (by rfl)
       ·intro w';go_simp;with_reducible rfl
       ·simp only [Act.put,List.setIfInBounds_toArray,List.set_cons_zero,List.set_cons_succ,i64_w];rfl
       apply pu 6 (some 71) [7,16] rfl rfl (by kernel_rfl) (fun _ _ _ h=>h) (by rfl)
       ·intro w';go_simp;with_reducible rfl
       ·simp only [Act.put,List.setIfInBounds_toArray,List.set_cons_zero,List.set_cons_succ,i64_w];rfl
       apply pu 7 (some 72) [8,15] rfl rfl (by kernel_rfl) (fun _ _ _ h=>h) (by rfl)
       ·intro w';go_simp;with_reducible rfl
       ·simp only [Act.put,List.setIfInBounds_toArray,List.set_cons_zero,List.set_cons_succ,i64_w];rfl
       apply pu 8 (some 73) [9,14] rfl rfl (by kernel_rfl) (fun _ _ _ h=>h) (by rfl)
       ·intro w';go_simp;with_reducible rfl
       ·simp only [Act.put,List.setIfInBounds_toArray,List.set_cons_zero,List.set_cons_succ,i64_w];rfl
       apply pu 9 (some 74) [10,13] rfl rfl (by kernel_rfl) (fun _ _ _ h=>h) (by rfl)
       ·intro w';go_simp;with_reducible rfl
       ·simp only [Act.put,List.setIfInBounds_toArray,List.set_cons_zero,List.set_cons_succ,i64_w];rfl
       apply pn 10 (some 75) [11,12] rfl rfl (by kernel_rfl) (fun _ _ _ h=>h) (by rfl)
       ·simp only [Act.put,List.setIfInBounds_toArray,List.set_cons_zero,List.set_cons_succ,i64_w];rfl
       apply pn 11 (some 76) [12,11] rfl rfl (by kernel_rfl) (fun _ _ _ h=>h) (by rfl)
       ·simp only [Act.put,List.setIfInBounds_toArray,List.set_cons_zero,List.set_cons_succ,i64_w];rfl
       apply pn 12 (some 77) [13,10] rfl rfl (by kernel_rfl) (fun _ _ _ h=>h) (by rfl)
       ·simp only [Act.put,List.setIfInBounds_toArray,List.set_cons_zero,List.set_cons_succ,i64_w];rfl
       apply pn 13 (some 78) [14,9] rfl rfl (by kernel_rfl) (fun _ _ _ h=>h) (by rfl)
       ·simp only [Act.put,List.setIfInBounds_toArray,List.set_cons_zero,List.set_cons_succ,i64_w];rfl
       apply pn 14 (some 79) [15,8] rfl rfl (by kernel_rfl) (fun _ _ _ h=>h) (by rfl)
       ·simp only [Act.put,List.setIfInBounds_toArray,List.set_cons_zero,List.set_cons_succ,i64_w];rfl
       apply pn 15 (some 80) [16,7] rfl rfl (by kernel_rfl) (fun _ _ _ h=>h) (by rfl)
       ·simp only [Act.put,List.setIfInBounds_toArray,List.set_cons_zero,List.set_cons_succ,i64_w];rfl
       apply pn 16 (some 81) [17,6] rfl rfl (by kernel_rfl) (fun _ _ _ h=>h) (by rfl)
       ·simp only [Act.put,List.setIfInBounds_toArray,List.set_cons_zero,List.set_cons_succ,i64_w];rfl
       apply pn 17 (some 82) [18,5] rfl rfl (by kernel_rfl) (fun _ _ _ h=>h) (by rfl)
       ·simp only [Act.put,List.setIfInBounds_toArray,List.set_cons_zero,List.set_cons_succ,i64_w];rfl
       apply pn 18 (some 83) [19,4] rfl rfl (by kernel_rfl) (fun _ _ _ h=>h) (by rfl)
       ·simp only [Act.put,List.setIfInBounds_toArray,List.set_cons_zero,List.set_cons_succ,i64_w];rfl
       apply pn 19 (some 84) [20,3] rfl rfl (by kernel_rfl) (fun _ _ _ h=>h) (by rfl)
       ·simp only [Act.put,List.setIfInBounds_toArray,List.set_cons_zero,List.set_cons_succ,i64_w];rfl
       apply pn 20 (some 85) [21,2] rfl rfl (by kernel_rfl) (fun _ _ _ h=>h) (by rfl)
       ·simp only [Act.put,List.setIfInBounds_toArray,List.set_cons_zero,List.set_cons_succ,i64_w];rfl
       apply pu 21 (some 86) [22,1] rfl rfl (by kernel_rfl) (fun _ _ _ h=>h) (by rfl)
       ·intro w';go_simp;with_reducible rfl
       ·simp only [Act.put,List.setIfInBounds_toArray,List.set_cons_zero,List.set_cons_succ,i64_w];rfl
       apply pu 22 (some 87) [23] rfl rfl (by kernel_rfl) (fun _ _ _ h=>h) (by rfl)
       ·intro w';go_simp;with_reducible rfl
       ·simp only [Act.put,List.setIfInBounds_toArray,List.set_cons_zero,List.set_cons_succ,i64_w];rfl
       refine done_ (by kernel_rfl) ?_
       have H9:=Aside0.mk hHeld
       generalize w4.drew=w9 at H9 ⊢
       clear hHeld
       have HO3:=Aside0.mk (show holdsB l order=holdsL l (order.drop (k+1)) (dn.set j true) a.1 a.2.1 by rw [HO2.out,HR.out,if_pos rfl])
       have HS9:=Aside0.mk (HS4.out.below H9.out)
       have hV:Kd.R Kd.string 9 w9 w.heap.size (fun _=>True) (.slice B1 a.2.1.length k1) a.2.1:=(HV.out.below H9.out).1.elim (fun h=>by rw [h.1,h.2];exact HS9.out.2.2.2) id
       have HV9:=Aside0.mk hV
       have hpa:ga≠gd:=fun e=>Kd.R_ne HS9.out.1.2.2.2.2.2.1 (blk_below HP.out H9.out) (by decide) (by rw [e];rfl)
       have hpg:gd≠g6:=fun e=>Kd.R_ne HS9.out.1.2.2.2.2.2.1 HS9.out.2.1 (by decide) (by rw [e];rfl)
       have hq:(w9.setCell ⟨gd,j,none⟩ (.bool true)).heap[ga]? =some (.cells #[.int .i64 a.1, .slice B1 a.2.1.length k1] 36 (0,0)):=blk_far (blk_below HP.out H9.out) hpa _
       have hg6:(w9.setCell ⟨gd,j,none⟩ (.bool true)).heap[g6]? =some (.cells #[.int .i64 fl, .slice At tr.length ct] 36 (0,0)):=blk_far HS9.out.2.1 hpg.symm _
       obtain ⟨f0,f1,f2,f3⟩:=HS9.out.1.cells
       rw [List.length_map] at f0 f1
       obtain ⟨d0,d1⟩:=Kd.R_celln (enc:=Value.bool) (h1:=fun _=>rfl) false HS9.out.1.2.2.2.2.2.1 (j:Int) (by omega) (by have:=HLs.out;omega)
       rw [Int.toNat_natCast] at d0 d1
       obtain ⟨⟨m0,m1⟩, -⟩:=cells2 hq
       obtain ⟨⟨n0,n1⟩,n2,n3⟩:=cells2 hg6
       obtain ⟨t1,t2⟩:=st2 hg6 (.int .i64 a.1)
       clear hV hq hg6 hpa hpg
       go_wp2_with fail
       have HS3:=Aside0.mk (HS9.out.step j HJ.out.2 (fl':=a.1) HV9.out)
       go_roundg (order.length - k)
       case measure=>have:=HG.out.2;omega
       case rel=>exact ⟨k+1,dn.set j true,a.1,B1,k1,a.2.1,by go_num,⟨by have:=HG.out;omega⟩,HS3,⟨by rw [HO3.out]⟩,⟨by rw [List.length_set];exact HN.out.1,by have:=HNl.out;have:=HN.out.2;have:=HC1.out;omega⟩⟩
   ·have ltb:decide ((k:Int) < (order.length:Int))=false:=decide_eq_false (by omega)
    have ltc:decide (k < order.length)=false:=decide_eq_false hlt
    have HOv:=Aside0.mk (show holdsB l order=overB l dn by rw [HO.out,List.drop_eq_nil_of_le (by omega),holdsL])
    have HOc:=Aside0.mk (over_calls g Ac cc (l.map strip) A5 c5 dn 0 (.slice none 0 0) wr HS.out.1.fst (by rw [List.length_map];exact HN.out.1))
    rw [over_strip] at HOc
    have HB:=Aside0.mk HS.out.1.2.2.2.1
    go_wp2_with (first|(go_at_call 41;(with_reducible refine HOc.out.mono ?_);rintro e w1 ⟨rfl,hb⟩;replace HB:=Aside0.mk (below_step HB.out hb);clear hb))
    go_ret
    exact ⟨by rw [HOv.out];rfl,HB.out⟩
end Go.Proofs.YthejnffhfmdpnaaDoor.Q

end

section
namespace Go.Proofs.YthejnffhfmdpnaaDoor.Q
open Go.RowKit Go.Proofs.YthejnffhfmdpnaaDoorW.PrintWords Go.Proofs.YthejnffhfmdpnaaDoorW.PrintLast Go.Proofs.YthejnffhfmdpnaaDoorW.PrintMore
set_option linter.unusedVariables false
set_option linter.unusedSimpArgs false
def shortE (x:S45):S45:=⟨x.f0,x.f1,⟨x.f2.f0,x.f2.f1,fewB x.f2.f2⟩,⟨x.f3.f0,x.f3.f1,x.f3.f2,fewB x.f3.f3,x.f3.f4⟩⟩
def shortB (l:List S45) (n:Int):List S45:=(l.take n.toNat).map shortE
theorem R_grownT {α β:Type} {d:Kd α} {d':Kd β} {e e' base base':Nat} {ok ok':Nat→Prop} {v v':Value} {xs:List α} {ys:List β} {W W1:World} (h:d.R e W base ok v xs) (h':d'.R e' W base' ok' v' ys) (hg:W.grownBy W1 v'.ownBlock) (ht: ∀q,q ∈ e::d.E→e'≠q):d.R e W1 base ok v xs:=
 Kd.R_mono (Kd.R_step (Kd.R_bound h) (fun k hk hlt=>hg.block k hlt (by obtain ⟨_,_,_,q,hq,cells,hc⟩:=hk;exact Kd.R_ne h' hc (ht q hq)))) (fun k hk=>hk.1)
def EvR (w W:World) (p:S45) (c:List Value):Prop:= ∃v4 v8 A9 c9,c= [.int .i64 p.f0, .int .i64 p.f1, .int .i64 p.f2.f0, .int .i64 p.f2.f1,v4, .int .i64 p.f3.f0, .int .i64 p.f3.f1, .int .i64 p.f3.f2,v8, .slice A9 p.f3.f4.length c9]∧k66.R 66 W w.heap.size (fun _=>True) v4 p.f2.f2∧k66.R 66 W w.heap.size (fun _=>True) v8 p.f3.f3∧p.f3.f4.length≤c9∧Kd.C Kd.string w A9 p.f3.f4.length p.f3.f4
theorem EvR.below {w W W1:World} {p:S45} {c:List Value} (h:EvR w W p c) (hb:Below W.heap.size W W1):EvR w W1 p c:=by
 obtain ⟨v4,v8,A9,c9,e,h4,h8,h9⟩:=h
 exact ⟨v4,v8,A9,c9,e,Kd.R_below h4 hb,Kd.R_below h8 hb,h9⟩
theorem EvR.set {w W:World} {p:S45} {c:List Value} (h:EvR w W p c) {g t:Nat} {cells:Array Value} (hb:W.heap[g]? =some (.cells cells t (0,0))) (ht:t≠66) (j:Nat) (u:Value):EvR w (W.setCell ⟨g,j,none⟩ u) p c:=by
 obtain ⟨v4,v8,A9,c9,e,h4,h8,h9⟩:=h
 have ht': ∀q,q ∈ 66::k66.E→q≠t:=fun q hq=>by
  obtain rfl:q=66:=by simpa [k66,Kd.iso,Kd.pair,Kd.string,Kd.int,Kd.scalar] using hq
  exact ht.symm
 exact ⟨v4,v8,A9,c9,e,Kd.R_set h4 hb ht' j u,Kd.R_set h8 hb ht' j u,h9⟩
theorem EvR.grown {w W W1:World} {p:S45} {c:List Value} {v':Value} {ys:List (List Value)} (h:EvR w W p c) (h':(kraw 10).R 45 W w.heap.size (fun _=>True) v' ys) (hg:W.grownBy W1 v'.ownBlock):EvR w W1 p c:=by
 obtain ⟨v4,v8,A9,c9,e,h4,h8,h9⟩:=h
 exact ⟨v4,v8,A9,c9,e,R_grownT h4 h' hg (by decide),R_grownT h8 h' hg (by decide),h9⟩
theorem EvR.K {w W:World} {p:S45} {c:List Value} (h:EvR w W p c) (hB:Below w.heap.size w W):k45.K W p c:=by
 obtain ⟨v4,v8,A9,c9,rfl,h4,h8,l9,h9⟩:=h
 obtain ⟨A4,c4,rfl,l4,g4⟩:=Kd.R_reads h4
 obtain ⟨A8,c8,rfl,l8,g8⟩:=Kd.R_reads h8
 exact k45_mk W p l4 g4 l8 g8 l9 (Kd.C_below h9 hB)
def EvRow (w W:World) (v:Value) (xs:List S45):Prop:=Below w.heap.size w W∧ ∃raws:List (List Value),raws.length=xs.length∧(kraw 10).R 45 W w.heap.size (fun _=>True) v raws∧ ∀(j:Nat) (p:S45) (c:List Value),xs[j]? =some p→raws[j]? =some c→EvR w W p c
theorem EvRow.below {w W W1:World} {v:Value} {xs:List S45} (h:EvRow w W v xs) (hb:Below W.heap.size W W1):EvRow w W1 v xs:=by
 obtain ⟨hB,raws,hl,hR,hE⟩:=h
 exact ⟨below_step hB hb,raws,hl,Kd.R_below hR hb,fun j p c hj hc=>(hE j p c hj hc).below hb⟩
theorem raw_far {n e base:Nat} {ok:Nat→Prop} {v:Value} {raws:List (List Value)} {W:World} (h:(kraw n).R e W base ok v raws) (p:Addr) (hne: ∀k,v.ownBlock=some k→k≠p.block) (u:Value):(kraw n).R e (W.setCell p u) base (fun _=>True) v raws:=by
 obtain ⟨_,inner,ho,hr⟩:=h
 have h':(kraw n).R e W base (fun k=>v.ownBlock=some k) v raws:=⟨fun _ hk=>hk,inner,ho,hr.imp_ (fun _ _ hp=>hp)⟩
 exact Kd.R_mono (Kd.R_far h' hne u) (fun _ _=>trivial)
theorem EvRow.set {w W:World} {v:Value} {xs:List S45} (h:EvRow w W v xs) {g:Nat} {cells:Array Value} (hb:W.heap[g]? =some (.cells cells 45 (0,0))) (hg:w.heap.size≤g) (hne: ∀k,v.ownBlock=some k→k≠g) (j:Nat) (u:Value):EvRow w (W.setCell ⟨g,j,none⟩ u) v xs:=by
 obtain ⟨hB,raws,hl,hR,hE⟩:=h
 exact ⟨below_set hB hg,raws,hl,raw_far hR ⟨g,j,none⟩ hne u,fun i p c hj hc=>(hE i p c hj hc).set hb (by decide) j u⟩
theorem EvRow.lt {w W:World} {v:Value} {xs:List S45} (h:EvRow w W v xs): ∀k,v.ownBlock=some k→k < W.heap.size:=by
 obtain ⟨hB,raws,hl,hR,hE⟩:=h
 obtain ⟨inner,ho⟩:=Kd.R_own hR
 exact fun k hk=>(World.ownsRow.lt ho k hk).2
theorem EvRow.slice {w W:World} {v:Value} {xs:List S45} (h:EvRow w W v xs): ∃A c,v= .slice A xs.length c:=by
 obtain ⟨hB,raws,hl,hR,hE⟩:=h
 exact hl ▸ Kd.R_slice hR
theorem EvRow.app {w W w1:World} {v v1:Value} {xs:List S45} {raws:List (List Value)} {p:S45} {c:List Value} (hl:raws.length=xs.length) (hR:(kraw 10).R 45 W w.heap.size (fun _=>True) v raws) (hE: ∀(j:Nat) (p:S45) (c:List Value),xs[j]? =some p→raws[j]? =some c→EvR w W p c) (hP:EvR w W p c) (ho:(kraw 10).R 45 w1 w.heap.size (fun _=>True) v1 (raws++[c])) (hb:Below w.heap.size w w1) (hg:W.grownBy w1 v.ownBlock):EvRow w w1 v1 (xs++[p]):=by
 refine ⟨hb,_,by rw [List.length_append,List.length_append,hl];rfl,ho,fun j q d hj hd=>?_⟩
 by_cases h:j < xs.length
 ·rw [List.getElem?_append_left h] at hj
  rw [List.getElem?_append_left (by omega)] at hd
  exact (hE j q d hj hd).grown hR hg
 ·rw [List.getElem?_append_right (by omega)] at hj hd
  rw [hl] at hd
  cases hk:j - xs.length with
  |zero=>
   rw [hk] at hj hd
   obtain rfl:=Option.some.inj hj
   obtain rfl:=Option.some.inj hd
   exact hP.grown hR hg
  |succ m=>rw [hk] at hj;simp at hj
theorem cells10 {W:World} {g t:Nat} {x0 x1 x2 x3 x4 x5 x6 x7 x8 x9:Value} (h:W.heap[g]? =some (.cells #[x0,x1,x2,x3,x4,x5,x6,x7,x8,x9] t (0,0))):(W.cell? ⟨g,0,none⟩=some x0∧W.cell? ⟨g,1,none⟩=some x1∧W.cell? ⟨g,2,none⟩=some x2∧W.cell? ⟨g,3,none⟩=some x3∧W.cell? ⟨g,4,none⟩=some x4∧W.cell? ⟨g,5,none⟩=some x5∧W.cell? ⟨g,6,none⟩=some x6∧W.cell? ⟨g,7,none⟩=some x7∧W.cell? ⟨g,8,none⟩=some x8∧W.cell? ⟨g,9,none⟩=some x9)∧ ∀j,W.frozen? ⟨g,j,none⟩=false:=
 ⟨⟨(blk_cell h 0).trans rfl,(blk_cell h 1).trans rfl,(blk_cell h 2).trans rfl,(blk_cell h 3).trans rfl,(blk_cell h 4).trans rfl,(blk_cell h 5).trans rfl,(blk_cell h 6).trans rfl,(blk_cell h 7).trans rfl,(blk_cell h 8).trans rfl,(blk_cell h 9).trans rfl⟩,blk_frozen h⟩
theorem shortB_next {l:List S45} {i:Nat} (h:i < l.length):(l.take i).map shortE++[shortE (rd_T45 l (i:Int))]=(l.take (i+1)).map shortE:=by
 rw [rd_T45,Int.toNat_natCast,List.getD_eq_getElem?_getD,List.getElem?_eq_getElem h,Option.getD_some,List.take_succ_eq_append_getElem h,List.map_append]
 rfl
set_option maxHeartbeats 8000000 in
set_option maxRecDepth 100000 in
theorem short_calls (A0:Option Addr) (c0:Nat) (l:List S45) (n:Int) (hn:n≤1000) (w:World) (hr0:Kd.C k45 w A0 l.length l):
  Calls Tryd.prog 11 #[.slice A0 l.length c0, .int .i64 n] w fun e w'=> ∃v,e= .returned v∧EvRow w w' v (shortB l n):=by
 have HR0:=Aside0.mk hr0
 have HN:=Aside0.mk hn
 have hlm:=hr0.2.1
 clear hr0 hn
 go_enter Tryd.func11,Tryd.ntmps11
 go_wp2
 go_loopg [5,6] (l.length+1) (fun gq v5 v6 wr=> ∃i:Nat,v6= .int .i64 i∧Aside0 (i≤l.length∧i≤n.toNat∧gq+i=l.length+1)∧Aside0 (EvRow w wr v5 ((l.take i).map shortE)))
 case atStart=>exact ⟨0,rfl,⟨by omega⟩,⟨Below.refl _ _,[],rfl,Kd.R_nil _ _ _ _ _,fun j p c hj=>by simp at hj⟩⟩
 case round=>
  obtain ⟨i,rfl,HG,HS⟩:=hrel
  have hle:=HG.out
  have hnn:=HN.out
  by_cases hlt:i < l.length∧i < n.toNat
  ·have ltb:decide ((i:Int) < (l.length:Int))=true:=decide_eq_true (by omega)
   have ltc:decide (i < l.length)=true:=decide_eq_true hlt.1
   have ltn:decide ((i:Int) < n)=true:=decide_eq_true (by omega)
   obtain ⟨ad0,A4,c4,A8,c8,A9,c9,ead0,x0,x1,x2,x3,x4,x5,x6,x7,x8,x9,l4,g4,l8,g8,l9,g9⟩:=at_T45 HR0.out (i:Int) (by omega) (by omega)
   cases ead0
   rw [Int.toNat_natCast] at x0 x1 x2 x3 x4 x5 x6 x7 x8 x9
   have hcl: ∀{q v},w.cell? q=some v→wr.cell? q=some v:=fun {q v} h=>(HS.out.1.cell (World.block_lt_of_cell? w _ h)).trans h
   replace x0:=hcl x0
   replace x1:=hcl x1
   replace x2:=hcl x2
   replace x3:=hcl x3
   replace x4:=hcl x4
   replace x5:=hcl x5
   replace x6:=hcl x6
   replace x7:=hcl x7
   replace x8:=hcl x8
   replace x9:=hcl x9
   have p200:=eq_true (show (0:Int)≤(i:Int) by omega)
   have q200:=eq_true (show (i:Int) < (l.length:Int) by omega)
   have HNx:=Aside0.mk (shortB_next hlt.1)
   obtain ⟨x,hx⟩: ∃x,x=rd_T45 l (i:Int):=⟨_,rfl⟩
   rw [← hx] at x0 x1 x2 x3 x4 x5 x6 x7 x8 x9 l4 g4 l8 g8 l9 g9 HNx
   have HC4:=Aside0.mk g4
   have HC8:=Aside0.mk g8
   have HC9:=Aside0.mk (And.intro l9 g9)
   have HL:=Aside0.mk (show ((l.take i).map shortE).length≤1000 by rw [List.length_map,List.length_take];omega)
   generalize hxs:(l.take i).map shortE=xs at HS HNx HL
   obtain ⟨A5,c5,rfl⟩:=HS.out.slice
   have HB:=Aside0.mk HS.out.1
   clear hx l4 g4 l8 g8 l9 g9 hcl hxs hle hnn
   go_wp2_with (first|(go_at_call 17;(with_reducible refine (few_calls x.f2.f0 x.f2.f1 A4 c4 x.f2.f2 _ (Kd.C_below HC4.out (below_alloc HB.out _))).mono ?_);rintro e w2 ⟨B4,d4,rfl,hR4,hb⟩;have hbx:=blk_below (blk_new wr _) hb;have HR4:=Aside0.mk (Kd.R_lower hR4 (below_alloc HB.out _).size);have HS2:=Aside0.mk ((HS.out.below (below_alloc (Below.refl _ _) _)).below hb);have HNe:=Aside0.mk (show ∀k,(Value.slice A5 xs.length c5).ownBlock=some k→k≠wr.heap.size from fun k hk e=>by have:=HS.out.lt k hk;omega);have HG1:=Aside0.mk HB.out.size;obtain ⟨⟨y0,y1,y2,y3,y4,y5,y6,y7,y8,y9⟩,yf⟩:=cells10 hbx;have yf2:=yf 2;have yf3:=yf 3;have yf4:=yf 4;clear hb hR4 x0 x1 x2 x3 x4 x5 x6 x7 x8 x9 yf))
   have p1:(w2.setCell ⟨wr.heap.size,2,none⟩ (.int .i64 x.f2.f0)).heap[wr.heap.size]? =some (.cells #[.int .i64 x.f0, .int .i64 x.f1, .int .i64 x.f2.f0, .int .i64 x.f2.f1, .slice A4 x.f2.f2.length c4, .int .i64 x.f3.f0, .int .i64 x.f3.f1, .int .i64 x.f3.f2, .slice A8 x.f3.f3.length c8, .slice A9 x.f3.f4.length c9] 45 (0,0)):=blk_put hbx 2 _ rfl
   have p2:((w2.setCell ⟨wr.heap.size,2,none⟩ (.int .i64 x.f2.f0)).setCell ⟨wr.heap.size,3,none⟩ (.int .i64 x.f2.f1)).heap[wr.heap.size]? =some (.cells #[.int .i64 x.f0, .int .i64 x.f1, .int .i64 x.f2.f0, .int .i64 x.f2.f1, .slice A4 x.f2.f2.length c4, .int .i64 x.f3.f0, .int .i64 x.f3.f1, .int .i64 x.f3.f2, .slice A8 x.f3.f3.length c8, .slice A9 x.f3.f4.length c9] 45 (0,0)):=blk_put p1 3 _ rfl
   have p3:(((w2.setCell ⟨wr.heap.size,2,none⟩ (.int .i64 x.f2.f0)).setCell ⟨wr.heap.size,3,none⟩ (.int .i64 x.f2.f1)).setCell ⟨wr.heap.size,4,none⟩ (.slice B4 (fewB x.f2.f2).length d4)).heap[wr.heap.size]? =some (.cells #[.int .i64 x.f0, .int .i64 x.f1, .int .i64 x.f2.f0, .int .i64 x.f2.f1, .slice B4 (fewB x.f2.f2).length d4, .int .i64 x.f3.f0, .int .i64 x.f3.f1, .int .i64 x.f3.f2, .slice A8 x.f3.f3.length c8, .slice A9 x.f3.f4.length c9] 45 (0,0)):=blk_put p2 4 _ rfl
   have HS3:=Aside0.mk (((HS2.out.set hbx HG1.out HNe.out 2 (.int .i64 x.f2.f0)).set p1 HG1.out HNe.out 3 (.int .i64 x.f2.f1)).set p2 HG1.out HNe.out 4 (.slice B4 (fewB x.f2.f2).length d4))
   have HR43:=Aside0.mk (Kd.R_set (Kd.R_set (Kd.R_set HR4.out hbx (by decide) 2 (.int .i64 x.f2.f0)) p1 (by decide) 3 (.int .i64 x.f2.f1)) p2 (by decide) 4 (.slice B4 (fewB x.f2.f2).length d4))
   have HB3:=Aside0.mk HS3.out.1
   clear p1 p2 hbx HS2 HR4 y0 y1 y2 y3 y4 y5 y6 y7 y8 y9 yf2 yf3 yf4
   generalize ((w2.setCell ⟨wr.heap.size,2,none⟩ (.int .i64 x.f2.f0)).setCell ⟨wr.heap.size,3,none⟩ (.int .i64 x.f2.f1)).setCell ⟨wr.heap.size,4,none⟩ (.slice B4 (fewB x.f2.f2).length d4)=w3 at p3 HS3 HR43 HB3 ⊢
   refine (few_calls 0 0 A8 c8 x.f3.f3 _ (Kd.C_below HC8.out HB3.out)).mono ?_
   rintro e w4 ⟨B8,d8,rfl,hR8,hb⟩
   have HX:=Aside0.mk (blk_alloc (blk_below p3 hb) (.cells #[.int .i64 0, .int .i64 0, .slice B8 (fewB x.f3.f3).length d8] 43))
   have ha:=below_alloc hb (.cells #[.int .i64 0, .int .i64 0, .slice B8 (fewB x.f3.f3).length d8] 43)
   have HS4:=Aside0.mk (HS3.out.below ha)
   have HR4:=Aside0.mk (Kd.R_below HR43.out ha)
   have HR8:=Aside0.mk (Kd.R_alloc (Kd.R_lower hR8 HB3.out.size) (.cells #[.int .i64 0, .int .i64 0, .slice B8 (fewB x.f3.f3).length d8] 43))
   obtain ⟨⟨y0,y1,y2,y3,y4,y5,y6,y7,y8,y9⟩,yf⟩:=cells10 HX.out
   have yf8:=yf 8
   clear hb hR8 ha yf p3 HS3 HR43
   go_wp2_with (first|((with_reducible refine gate_builtin (b:= .append) (xs:=#[.tmp 37, .tmp 39]) rfl ?_);at_builtin;have HR4':=Kd.R_set HR4.out HX.out (by decide) 8 (.slice B8 (fewB x.f3.f3).length d8);have HR8':=Kd.R_set HR8.out HX.out (by decide) 8 (.slice B8 (fewB x.f3.f3).length d8);obtain ⟨hB,raws,hl,hR,hE⟩:=HS4.out.set HX.out HG1.out HNe.out 8 (.slice B8 (fewB x.f3.f3).length d8);refine Kd.R_append (kraw 10) (w0:=w) w.heap.size rfl (.tmp 37) (.tmp 39) 22 45 (.agg #[(.int .i64 0),(.int .i64 0),(.int .i64 0),(.int .i64 0),(.slice none 0 0),(.int .i64 0),(.int .i64 0),(.int .i64 0),(.slice none 0 0),(.slice none 0 0)]) 128 rfl Tryd.underlying22 info45 rfl (by decide) (by omega) (.slice A5 xs.length c5) raws [.int .i64 x.f0, .int .i64 x.f1, .int .i64 x.f2.f0, .int .i64 x.f2.f1, .slice B4 (fewB x.f2.f2).length d4, .int .i64 x.f3.f0, .int .i64 x.f3.f1, .int .i64 x.f3.f2, .slice B8 (fewB x.f3.f3).length d8, .slice A9 x.f3.f4.length c9] [.int .i64 x.f0, .int .i64 x.f1, .int .i64 x.f2.f0, .int .i64 x.f2.f1, .slice B4 (fewB x.f2.f2).length d4, .int .i64 x.f3.f0, .int .i64 x.f3.f1, .int .i64 x.f3.f2, .slice B8 (fewB x.f3.f3).length d8, .slice A9 x.f3.f4.length c9] (fun _=>True) (fun _=>False) rfl (by first|(go_simp;done)|(go_simp;rfl)) ⟨rfl,rfl,by simp [Value.oneCell']⟩ (fun _ hk=>hk.elim) (fun _ _=>trivial) hR hB hB.size (by have:=HL.out;omega) ?_;intro v1 w1 ho hb hg hat;have HS7:=Aside0.mk (EvRow.app hl hR hE ⟨_,_,_,_,rfl,HR4',HR8',HC9.out⟩ ho hb hg (p:=shortE x));rw [HNx.out] at HS7;clear ho hb hg hat HR4' HR8' hB hl hR hE))
   go_roundg (l.length - i)
   case measure=>have:=HG.out.2;omega
   case rel=>exact ⟨i+1,by go_num,⟨by have:=HG.out;omega⟩,HS7⟩
  ·have HE:=Aside0.mk (show (l.take i).map shortE=shortB l n by
    unfold shortB;congr 1
    by_cases h8:i=n.toNat
    ·rw [h8]
    ·rw [List.take_of_length_le (show l.length≤i by omega),List.take_of_length_le (show l.length≤n.toNat by omega)])
   rw [HE.out] at HS
   have h3:decide (i < l.length)=decide ((i:Int) < (l.length:Int)):=decide_eq_decide.mpr (by omega)
   have h4:decide ((i:Int) < (l.length:Int))=true→decide ((i:Int) < n)=false:=fun h=>by have:=of_decide_eq_true h;exact decide_eq_false (by omega)
   cases h2:decide ((i:Int) < (l.length:Int))<;>rw [h2] at h3 h4<;>try have h5:=h4 rfl
   all_goals
    go_wp2_with fail
    go_ret
    exact ⟨_,rfl,HS.out⟩
end Go.Proofs.YthejnffhfmdpnaaDoor.Q

end

section
namespace Go.Proofs.YthejnffhfmdpnaaDoor.Q
open Go.RowKit Go.Proofs.YthejnffhfmdpnaaDoorW.PrintWords Go.Proofs.YthejnffhfmdpnaaDoorW.PrintLast Go.Proofs.YthejnffhfmdpnaaDoorW.PrintMore
set_option linter.unusedVariables false
end Go.Proofs.YthejnffhfmdpnaaDoor.Q

end

section
namespace Go.Proofs.YthejnffhfmdpnaaDoor.Q
open Go.RowKit Go.Proofs.YthejnffhfmdpnaaDoorW.PrintWords Go.Proofs.YthejnffhfmdpnaaDoorW.PrintLast Go.Proofs.YthejnffhfmdpnaaDoorW.PrintMore
set_option linter.unusedVariables false
end Go.Proofs.YthejnffhfmdpnaaDoor.Q

end

section
namespace Go.Proofs.YthejnffhfmdpnaaDoor.Spec
set_option linter.unusedVariables false
open Go.RowKit Go.Proofs.YthejnffhfmdpnaaDoor.Q Go.Proofs.YthejnffhfmdpnaaDoorW.PrintWords Go.Proofs.YthejnffhfmdpnaaDoorW.PrintLast Go.Proofs.YthejnffhfmdpnaaDoorW.PrintMore
end Go.Proofs.YthejnffhfmdpnaaDoor.Spec

end

section
namespace Go.Proofs.YthejnffhfmdpnaaDoor.Q
open Go.RowKit Go.Proofs.YthejnffhfmdpnaaDoorW.PrintWords Go.Proofs.YthejnffhfmdpnaaDoorW.PrintLast Go.Proofs.YthejnffhfmdpnaaDoorW.PrintMore
set_option linter.unusedVariables false
def speech_same.f (k:Nat) (a0_0:Int) (a0_1:Int) (a0_2:Int) (l0_3:List (S66)) (l0_4:List ByteArray) (a1_0:Int) (a1_1:Int) (a1_2:Int) (l1_3:List (S66)) (l1_4:List ByteArray):Option (Bool):=some (sameB a0_0 a0_1 a0_2 l0_3 a1_0 a1_1 a1_2 l1_3)
theorem speech_same.calls (k:Nat) (a0_0:Int) (a0_1:Int) (a0_2:Int) (A0_3:Option Addr) (c0_3:Nat) (l0_3:List (S66)) (A0_4:Option Addr) (c0_4:Nat) (l0_4:List ByteArray) (a1_0:Int) (a1_1:Int) (a1_2:Int) (A1_3:Option Addr) (c1_3:Nat) (l1_3:List (S66)) (A1_4:Option Addr) (c1_4:Nat) (l1_4:List ByteArray) (r:Bool) (w:World) (hr0_3:Kd.C k66 w A0_3 l0_3.length l0_3) (hc0_3:l0_3.length≤c0_3) (hr0_4:Kd.C Kd.string w A0_4 l0_4.length l0_4) (hc0_4:l0_4.length≤c0_4) (hr1_3:Kd.C k66 w A1_3 l1_3.length l1_3) (hc1_3:l1_3.length≤c1_3) (hr1_4:Kd.C Kd.string w A1_4 l1_4.length l1_4) (hc1_4:l1_4.length≤c1_4) (h:speech_same.f k a0_0 a0_1 a0_2 l0_3 l0_4 a1_0 a1_1 a1_2 l1_3 l1_4=some r):
  Calls Tryd.prog 40 #[.agg #[.int .i64 a0_0, .int .i64 a0_1, .int .i64 a0_2, .slice A0_3 l0_3.length c0_3, .slice A0_4 l0_4.length c0_4], .agg #[.int .i64 a1_0, .int .i64 a1_1, .int .i64 a1_2, .slice A1_3 l1_3.length c1_3, .slice A1_4 l1_4.length c1_4]] w fun e w'=>e= .returned (.bool r)∧Below w.heap.size w w':=by
 obtain rfl:=Option.some.inj h
 exact same40_calls a0_0 a0_1 a0_2 A0_3 c0_3 l0_3 _ a1_0 a1_1 a1_2 A1_3 c1_3 l1_3 _ w hr0_3 hr1_3
end Go.Proofs.YthejnffhfmdpnaaDoor.Q

end

section
namespace Go.Proofs.YthejnffhfmdpnaaDoor.Q
open Go.RowKit Go.Proofs.YthejnffhfmdpnaaDoorW.PrintWords Go.Proofs.YthejnffhfmdpnaaDoorW.PrintLast Go.Proofs.YthejnffhfmdpnaaDoorW.PrintMore
attribute [local go_sem] min2_int min_two
set_option linter.unusedVariables false
set_option linter.unusedSimpArgs false
def speech_changes.f (a0_0:Int) (a0_1:Int) (l0_2:List (S66)):Option (Bool):=if a0_0=1 then (some true) else (some (a0_0 == 5))
set_option maxHeartbeats 8000000 in
set_option maxRecDepth 100000 in
theorem speech_changes.calls (a0_0:Int) (a0_1:Int) (A0_2:Option Addr) (c0_2:Nat) (l0_2:List (S66)) (r:Bool) (w:World) (hr0_2:Kd.C k66 w A0_2 l0_2.length l0_2) (hc0_2:l0_2.length≤c0_2) (h:speech_changes.f a0_0 a0_1 l0_2=some r):
  Calls Tryd.prog 54 #[.agg #[.int .i64 a0_0, .int .i64 a0_1, .slice A0_2 l0_2.length c0_2]] w fun e w'=>e= .returned (.bool r)∧Below w.heap.size w w':=by
 have hu43:=Tryd.underlying43
 have HR0_2:=Aside0.mk hr0_2
 have HC0_2:=Aside0.mk hc0_2
 clear hr0_2 hc0_2
 have HB:=Aside0.mk (Below.refl w.heap.size w)
 have H:(if a0_0=1 then (some true) else (some (a0_0 == 5)))=some r:=h
 clear h
 by_cases c2:a0_0=1
 ·rw [if_pos c2] at H
  have c2b0:(a0_0 == 1)=true:=beq_iff_eq.mpr c2
  have c2b1:(a0_0 != 1)=false:=bne_eq_false_iff_eq.mpr c2
  clear c2
  obtain rfl:=Option.some.inj H
  go_enter Tryd.func54,Tryd.ntmps54
  go_wp2_with (first|((with_reducible refine gate_dst (N:=1) rfl ?_);refine box_event ?hg (N:=1) ?hd (cs:=#[.int .i64 a0_0, .int .i64 a0_1, .slice A0_2 l0_2.length c0_2]) (t:=43) ?hr ?_;(case hd=>rfl);(case hg=>rfl);(case hr=>first|(go_simp;done)|(go_simp;rfl));intro gb292 hg w3 hbox hb;have n0_:=Aside0.mk (below_step (by repeat (first|(with_reducible first|exact HB.out|apply below_alloc|apply pw_below_drewN|apply below_drew1)|exact HB.out)) hb);have n1_:=Aside0.mk (hbox);have n2_:=Aside0.mk ((by rw [hg];exact (below_size (by repeat (first|(with_reducible first|exact HB.out|apply below_alloc|apply pw_below_drewN|apply below_drew1)|exact HB.out))):w.heap.size≤gb292));have n3_:=Aside0.mk ((by rw [hg];exact (below_size (by repeat (first|(with_reducible first|exact HB.out|apply below_alloc|apply pw_below_drewN|apply below_drew1)|exact HB.out))):w.heap.size≤gb292));clear HB;have HB:=n0_;have BK292:=n1_;have GW292:=n2_;have GE292:=n3_;clear n0_ n1_ n2_ n3_;clear hb hbox hg;have hcz4_0:w3.cell? ⟨gb292,0,none⟩=some (.int .i64 a0_0):=(blk_cell BK292.out 0).trans rfl;have hcz4_1:w3.cell? ⟨gb292,1,none⟩=some (.int .i64 a0_1):=(blk_cell BK292.out 1).trans rfl;have hcz4_2:w3.cell? ⟨gb292,2,none⟩=some (.slice A0_2 l0_2.length c0_2):=(blk_cell BK292.out 2).trans rfl;have hfz4_0:=blk_frozen BK292.out 0;have hfz4_1:=blk_frozen BK292.out 1;have hfz4_2:=blk_frozen BK292.out 2))
  go_ret
  exact ⟨by first|rfl|(simp [errW_none]<;>rfl)|(simp [*]<;>rfl),by repeat (first|(with_reducible first|exact HB.out|apply below_alloc|apply pw_below_drewN|apply below_drew1|refine below_set ?_ GE292.out)|exact HB.out)⟩
 ·rw [if_neg c2] at H
  have c2b0:(a0_0 == 1)=false:=beq_eq_false_iff_ne.mpr c2
  have c2b1:(a0_0 != 1)=true:=bne_iff_ne.mpr c2
  obtain rfl:=Option.some.inj H
  go_enter Tryd.func54,Tryd.ntmps54
  go_wp2_with (first|((with_reducible refine gate_dst (N:=1) rfl ?_);refine box_event ?hg (N:=1) ?hd (cs:=#[.int .i64 a0_0, .int .i64 a0_1, .slice A0_2 l0_2.length c0_2]) (t:=43) ?hr ?_;(case hd=>rfl);(case hg=>rfl);(case hr=>first|(go_simp;done)|(go_simp;rfl));intro gb292 hg w5 hbox hb;have n0_:=Aside0.mk (below_step (by repeat (first|(with_reducible first|exact HB.out|apply below_alloc|apply pw_below_drewN|apply below_drew1)|exact HB.out)) hb);have n1_:=Aside0.mk (hbox);have n2_:=Aside0.mk ((by rw [hg];exact (below_size (by repeat (first|(with_reducible first|exact HB.out|apply below_alloc|apply pw_below_drewN|apply below_drew1)|exact HB.out))):w.heap.size≤gb292));have n3_:=Aside0.mk ((by rw [hg];exact (below_size (by repeat (first|(with_reducible first|exact HB.out|apply below_alloc|apply pw_below_drewN|apply below_drew1)|exact HB.out))):w.heap.size≤gb292));clear HB;have HB:=n0_;have BK292:=n1_;have GW292:=n2_;have GE292:=n3_;clear n0_ n1_ n2_ n3_;clear hb hbox hg;have hcz6_0:w5.cell? ⟨gb292,0,none⟩=some (.int .i64 a0_0):=(blk_cell BK292.out 0).trans rfl;have hcz6_1:w5.cell? ⟨gb292,1,none⟩=some (.int .i64 a0_1):=(blk_cell BK292.out 1).trans rfl;have hcz6_2:w5.cell? ⟨gb292,2,none⟩=some (.slice A0_2 l0_2.length c0_2):=(blk_cell BK292.out 2).trans rfl;have hfz6_0:=blk_frozen BK292.out 0;have hfz6_1:=blk_frozen BK292.out 1;have hfz6_2:=blk_frozen BK292.out 2))
  go_ret
  exact ⟨by first|rfl|(simp [errW_none]<;>rfl)|(simp [*]<;>rfl),by repeat (first|(with_reducible first|exact HB.out|apply below_alloc|apply pw_below_drewN|apply below_drew1|refine below_set ?_ GE292.out)|exact HB.out)⟩
end Go.Proofs.YthejnffhfmdpnaaDoor.Q

end

section
namespace Go.Proofs.YthejnffhfmdpnaaDoor.Q
open Go.RowKit Go.Proofs.YthejnffhfmdpnaaDoorW.PrintWords Go.Proofs.YthejnffhfmdpnaaDoorW.PrintLast Go.Proofs.YthejnffhfmdpnaaDoorW.PrintMore
set_option linter.unusedVariables false
set_option linter.unusedSimpArgs false
abbrev DoR:=Int × List ByteArray × Int × Int × Int × List S66 × List ByteArray
abbrev FR:=Bool × List Bool × Int × List Int
def takeF (k:Nat) (x:S45) (a:DoR):Option Bool:=if idleB x=true then some ((x.f2.f0 == 1 || x.f2.f0 == 5) && (a.2.2.1 == 0)) else speech_same.f k a.2.2.1 a.2.2.2.1 a.2.2.2.2.1 a.2.2.2.2.2.1 a.2.2.2.2.2.2 x.f3.f0 x.f3.f1 x.f3.f2 x.f3.f3 x.f3.f4
mutual
def find.f:Nat→List S45→List Bool→Int→List Int→Int→List ByteArray→Option FR
 |0,_,_,_,_,_,_=>none
 |k+1,l,dn,left,od,fl,tr=>if overB l dn=true then some (true,dn,left,od) else if wrap64 (left - 1) < 0 then some (false,dn,wrap64 (left - 1),od) else find.l0 k l dn (wrap64 (left - 1)) od fl tr 0
def find.l0:Nat→List S45→List Bool→Int→List Int→Int→List ByteArray→Nat→Option FR
 |0,_,_,_,_,_,_,_=>none
 |k+1,l,dn,left,od,fl,tr,i=>if i < l.length then (if rdOf false dn (i:Int)=true then find.l0 k l dn left od fl tr (i+1) else if freeB l dn i=false then find.l0 k l dn left od fl tr (i+1) else (speech_Do.f k fl tr (rd_T45 l (i:Int)).f2.f0 (rd_T45 l (i:Int)).f2.f1 (rd_T45 l (i:Int)).f2.f2).bind fun a=>(takeF k (rd_T45 l (i:Int)) a).bind fun t=>if t=false then find.l0 k l dn left od fl tr (i+1) else if od.length < 1000000000000 then ((find.f k l (dn.set i true) left (od++[(i:Int)]) a.1 a.2.1).bind fun r=>if r.1=true then some r else if 1≤r.2.2.2.length then find.l0 k l (r.2.1.set i false) r.2.2.1 (r.2.2.2.take (r.2.2.2.length - 1)) fl tr (i+1) else none) else none) else some (false,dn,left,od)
end
def FindPost (wB:World) (g:Nat) (A0:Option Addr) (c0:Nat) (l:List S45) (v1 v3:Value) (w:World) (r:FR) (e:Ending) (w':World):Prop:=
 ∃v3':Value,e= .returned (.bool r.1)∧Fnd wB g A0 c0 l v1 r.2.1 r.2.2.1 v3' r.2.2.2 w'∧Kept w w' (FS g v1 v3)∧ ∀k,v3'.ownBlock=some k→some k=v3.ownBlock∨w.heap.size≤k
def FindRel (wB:World) (g:Nat) (A0:Option Addr) (c0:Nat) (l:List S45) (v1 v3:Value) (w:World) (fl:Int) (tr:List ByteArray) (vt:Value) (dn:List Bool) (left:Int) (v3c:Value) (od:List Int) (wr:World):Prop:=
 Fnd wB g A0 c0 l v1 dn left v3c od wr∧Bs [(w.heap.size,#[.int .i64 fl,vt],36)] wr∧Kd.R Kd.string 9 wr wB.heap.size (fun _=>True) vt tr∧Kept w wr (FS g v1 v3)∧ ∀k,v3c.ownBlock=some k→some k=v3.ownBlock∨w.heap.size≤k
theorem FindRel.below {wB:World} {g:Nat} {A0:Option Addr} {c0:Nat} {l:List S45} {v1 v3:Value} {w:World} {fl:Int} {tr:List ByteArray} {vt:Value} {dn:List Bool} {left:Int} {v3c:Value} {od:List Int} {wr w2:World} (h:FindRel wB g A0 c0 l v1 v3 w fl tr vt dn left v3c od wr) (hb:Below wr.heap.size wr w2):FindRel wB g A0 c0 l v1 v3 w fl tr vt dn left v3c od w2:=
 ⟨h.1.below hb,h.2.1.below hb,Kd.R_below h.2.2.1 hb,h.2.2.2.1.below hb,h.2.2.2.2⟩
theorem FindRel.go {wB:World} {g:Nat} {A0:Option Addr} {c0:Nat} {l:List S45} {v1 v3:Value} {w:World} {fl:Int} {tr:List ByteArray} {vt:Value} {dn dn':List Bool} {left left':Int} {v3c v3':Value} {od od':List Int} {wr w2:World} (h:FindRel wB g A0 c0 l v1 v3 w fl tr vt dn left v3c od wr) (hF:Fnd wB g A0 c0 l v1 dn' left' v3' od' w2) (hK:Kept wr w2 (FS g v1 v3c)) (hv: ∀k,v3'.ownBlock=some k→some k=v3c.ownBlock∨wr.heap.size≤k):FindRel wB g A0 c0 l v1 v3 w fl tr vt dn' left' v3' od' w2:=by
 refine ⟨hF,h.2.1.kept h.1 hK,h.1.keep_row h.2.2.1 (by decide) hK,Kept.then_ h.2.2.2.1 hK (fun k hk=>?_),fun k hk=>?_⟩
 ·rcases hk with rfl|hk|hk
  ·exact .inl (.inl rfl)
  ·exact .inl (.inr (.inl hk))
  ·rcases h.2.2.2.2 k hk.symm with he|he
   ·exact .inl (.inr (.inr he))
   ·exact .inr he
 ·rcases hv k hk with he|he
  ·exact h.2.2.2.2 k he.symm
  ·exact .inr (Nat.le_trans h.2.2.2.1.1 he)
theorem FindRel.setLeft {wB:World} {g:Nat} {A0:Option Addr} {c0:Nat} {l:List S45} {v1 v3:Value} {w:World} {fl:Int} {tr:List ByteArray} {vt:Value} {dn:List Bool} {left:Int} {v3c:Value} {od:List Int} {wr:World} (h:FindRel wB g A0 c0 l v1 v3 w fl tr vt dn left v3c od wr) (n:Int):FindRel wB g A0 c0 l v1 v3 w fl tr vt dn n v3c od (wr.setCell ⟨g,2,none⟩ (.int .i64 n)):=
 h.go (h.1.setLeft n) ((Kept.refl wr _).setCell (.inl (.inl rfl)) _) (fun k hk=> .inl hk.symm)
set_option maxHeartbeats 16000000 in
set_option maxRecDepth 100000 in
theorem find_calls (k:Nat): ∀(wB:World) (g:Nat) (A0:Option Addr) (c0:Nat) (l:List S45) (A1:Option Addr) (c1:Nat) (dn:List Bool) (left:Int) (v3:Value) (od:List Int) (fl:Int) (At:Option Addr) (ct:Nat) (tr:List ByteArray) (r:FR) (w:World),find.f k l dn left od fl tr=some r→Fnd wB g A0 c0 l (.slice A1 l.length c1) dn left v3 od w→Kd.R Kd.string 9 w wB.heap.size (fun _=>True) (.slice At tr.length ct) tr→
  Calls Tryd.prog 37 #[.pointer (some ⟨g,0,none⟩), .agg #[.int .i64 fl, .slice At tr.length ct]] w (FindPost wB g A0 c0 l (.slice A1 l.length c1) v3 w r):=by
 induction k using Nat.strongRecOn with
 |ind k IH=>
  intro wB g A0 c0 l A1 c1 dn left v3 od fl At ct tr r w hf hF hT
  cases k with
  |zero=>exact absurd hf (by simp [find.f])
  |succ k=>
   rw [find.f] at hf
   have HIH:=Aside0.mk IH
   clear IH
   have hlm:=hF.max
   have HR0:=Aside0.mk (show FindRel wB g A0 c0 l (.slice A1 l.length c1) v3 w fl tr (.slice At tr.length ct) dn left v3 od (w.alloc (.cells #[.int .i64 fl, .slice At tr.length ct] 36)) from ⟨hF.below (below_alloc (Below.refl _ _) _),(Bs.nil w).cons _ 36 (by decide) (by decide) (by decide),Kd.R_below hT (below_alloc (Below.refl _ _) _),(Kept.refl w _).alloc _,fun k hk=> .inl hk.symm⟩)
   have HD:=Aside0.mk hF.2.2.2.2.2.2.2
   clear hF hT
   have HO:=Aside0.mk (over_calls g A0 c0 l A1 c1 dn left v3 _ HR0.out.1.fst HD.out)
   by_cases h1:overB l dn=true
   ·rw [if_pos h1] at hf
    obtain rfl:=Option.some.inj hf
    rw [h1] at HO
    clear h1 hf
    go_enter Tryd.func37,Tryd.ntmps37
    go_wp2_with fail
    go_step3
    go_wp2_with (first|(go_at_call 41;(with_reducible refine HO.out.mono ?_);rintro e w2 ⟨rfl,hb⟩;have HR:=Aside0.mk (HR0.out.below hb);clear hb))
    rw [Exit.noGoto_ret]
    go_ret
    exact ⟨v3,rfl,HR.out.1,HR.out.2.2.2.1,HR.out.2.2.2.2⟩
   rw [if_neg h1] at hf
   have h1:overB l dn=false:=by simpa using h1
   rw [h1] at HO
   clear h1
   by_cases h2:wrap64 (left - 1) < 0
   ·rw [if_pos h2] at hf
    obtain rfl:=Option.some.inj hf
    have h2b:decide (wrap64 (left - 1) < 0)=true:=decide_eq_true h2
    clear h2 hf
    go_enter Tryd.func37,Tryd.ntmps37
    go_wp2_with fail
    go_step3
    go_wp2_with (first|(go_at_call 41;(with_reducible refine HO.out.mono ?_);rintro e w2 ⟨rfl,hb⟩;have HR:=Aside0.mk (HR0.out.below hb);clear hb;obtain ⟨z0,z1,z2,z3⟩:=HR.out.1.cells;have y0:=blk_frozen HR.out.1.1 0;have y1:=blk_frozen HR.out.1.1 1;have y2:=blk_frozen HR.out.1.1 2;have y3:=blk_frozen HR.out.1.1 3))
    have HR2:=Aside0.mk (HR.out.setLeft (wrap64 (left - 1)))
    rw [Exit.noGoto_ret]
    go_ret
    exact ⟨v3,rfl,HR2.out.1,HR2.out.2.2.2.1,HR2.out.2.2.2.2⟩
   rw [if_neg h2] at hf
   have h2b:decide (wrap64 (left - 1) < 0)=false:=decide_eq_false h2
   clear h2
   have HF:=Aside0.mk hf
   clear hf
   go_enter Tryd.func37,Tryd.ntmps37
   go_wp2_with fail
   go_step3
   go_wp2_with (first|(go_at_call 41;(with_reducible refine HO.out.mono ?_);rintro e w2 ⟨rfl,hb⟩;have HR:=Aside0.mk (HR0.out.below hb);clear hb;obtain ⟨z0,z1,z2,z3⟩:=HR.out.1.cells;have y0:=blk_frozen HR.out.1.1 0;have y1:=blk_frozen HR.out.1.1 1;have y2:=blk_frozen HR.out.1.1 2;have y3:=blk_frozen HR.out.1.1 3))
   have HR2:=Aside0.mk (HR.out.setLeft (wrap64 (left - 1)))
   clear z0 z1 z2 z3 y0 y1 y2 y3 HR HR0 h2b HO
   generalize w2.setCell ⟨g,2,none⟩ (.int .i64 (wrap64 (left - 1)))=w3 at HR2 ⊢
   generalize wrap64 (left - 1)=left at HF HR2 ⊢
   obtain ⟨z0,z1,z2,z3⟩:=HR2.out.1.cells
   go_step3
   go_wp2_with fail
   clear z0 z1 z2 z3 hlm
   have hlm:=HR2.out.1.max
   go_loopg [29] (l.length+1) (fun gq v29 wr=> ∃(i kq:Nat) (dn:List Bool) (left:Int) (v3c:Value) (od:List Int),v29= .int .i64 i∧Aside0 (i≤l.length∧gq+i=l.length+1)∧Aside0 (kq≤k∧find.l0 kq l dn left od fl tr i=some r)∧Aside0 (FindRel wB g A0 c0 l (.slice A1 l.length c1) v3 w fl tr (.slice At tr.length ct) dn left v3c od wr))
   case atStart=>exact ⟨0,k,dn,left,v3,od,rfl,⟨by omega⟩,⟨Nat.le_refl _,HF.out⟩,HR2⟩
   case round=>
    clear HR2 HF HD
    obtain ⟨i,kq,dn,left,v3c,od,rfl,HG,HF,HR⟩:=hrel
    obtain ⟨hkq,hf⟩:=HF.out
    clear HF
    cases kq with
    |zero=>exact absurd hf (by simp [find.l0])
    |succ kq=>
     rw [find.l0] at hf
     have HKq:=Aside0.mk hkq
     clear hkq
     by_cases hi:i < l.length
     ·rw [if_pos hi] at hf
      have ltb:decide ((i:Int) < (l.length:Int))=true:=decide_eq_true (by omega)
      have ltc:decide (i < l.length)=true:=decide_eq_true hi
      have HFs:=Aside0.mk HR.out.1.fst
      have HD:=Aside0.mk HR.out.1.2.2.2.2.2.2.2
      obtain ⟨gd,rfl,hgd⟩:=HR.out.1.head (by omega)
      have HGD:=Aside0.mk hgd
      clear hgd
      obtain ⟨y0,y1⟩:=Kd.R_celln (enc:=Value.bool) (h1:=fun _=>rfl) false HR.out.1.2.2.2.2.2.1 (i:Int) (by omega) (by omega)
      rw [Int.toNat_natCast] at y0 y1
      obtain ⟨z0,z1,z2,z3⟩:=HR.out.1.cells
      obtain ⟨ad,A4,c4,A8,c8,A9,c9,ead,x0,x1,x2,x3,x4,x5,x6,x7,x8,x9,l4,g4,l8,g8,l9,g9⟩:=at_T45 HFs.out.2.1 (i:Int) (by omega) (by omega)
      cases ead
      rw [Int.toNat_natCast] at x0 x1 x2 x3 x4 x5 x6 x7 x8 x9
      have p200:=eq_true (show (0:Int)≤(i:Int) by omega)
      have q200:=eq_true (show (i:Int) < (l.length:Int) by omega)
      obtain ⟨x,hx⟩: ∃x,x=rd_T45 l (i:Int):=⟨_,rfl⟩
      rw [← hx] at x0 x1 x2 x3 x4 x5 x6 x7 x8 x9 l4 g4 l8 g8 l9 g9 hf
      have HXe:=Aside0.mk hx.symm
      have H4:=Aside0.mk (And.intro l4 g4)
      have H8:=Aside0.mk (And.intro l8 g8)
      have H9:=Aside0.mk (And.intro l9 g9)
      clear l4 g4 l8 g8 l9 g9 hx
      by_cases b1:rdOf false dn (i:Int)=true
      ·rw [if_pos b1] at hf
       rw [b1] at y0
       have HF:=Aside0.mk hf
       clear hf
       have HR1:=Aside0.mk (HR.out.below (below_alloc (Below.refl _ _) (.cells #[.int .i64 x.f0, .int .i64 x.f1, .int .i64 x.f2.f0, .int .i64 x.f2.f1, .slice A4 x.f2.f2.length c4, .int .i64 x.f3.f0, .int .i64 x.f3.f1, .int .i64 x.f3.f2, .slice A8 x.f3.f3.length c8, .slice A9 x.f3.f4.length c9] 45)))
       obtain ⟨zz0,zz1,zz2,zz3⟩:=HR1.out.1.cells
       obtain ⟨yy0,yy1⟩:=Kd.R_celln (enc:=Value.bool) (h1:=fun _=>rfl) false HR1.out.1.2.2.2.2.2.1 (i:Int) (by omega) (by omega)
       rw [Int.toNat_natCast] at yy0 yy1
       rw [b1] at yy0
       clear b1
       go_wp2_with fail
       go_roundg (l.length - i)
       case measure=>have:=HG.out.2;omega
       case rel=>exact ⟨i+1,kq,dn,left,v3c,od,by go_num,⟨by have:=HG.out;omega⟩,⟨by have:=HKq.out;omega,HF.out⟩,HR1⟩
      ·rw [if_neg b1] at hf
       have b1:rdOf false dn (i:Int)=false:=by simpa using b1
       rw [b1] at y0
       have HR1:=Aside0.mk (HR.out.below (below_alloc (Below.refl _ _) (.cells #[.int .i64 x.f0, .int .i64 x.f1, .int .i64 x.f2.f0, .int .i64 x.f2.f1, .slice A4 x.f2.f2.length c4, .int .i64 x.f3.f0, .int .i64 x.f3.f1, .int .i64 x.f3.f2, .slice A8 x.f3.f3.length c8, .slice A9 x.f3.f4.length c9] 45)))
       obtain ⟨zz0,zz1,zz2,zz3⟩:=HR1.out.1.cells
       obtain ⟨yy0,yy1⟩:=Kd.R_celln (enc:=Value.bool) (h1:=fun _=>rfl) false HR1.out.1.2.2.2.2.2.1 (i:Int) (by omega) (by omega)
       rw [Int.toNat_natCast] at yy0 yy1
       rw [b1] at yy0
       clear b1
       have HX:=Aside0.mk ((Bs.nil wr).cons #[.int .i64 x.f0, .int .i64 x.f1, .int .i64 x.f2.f0, .int .i64 x.f2.f1, .slice A4 x.f2.f2.length c4, .int .i64 x.f3.f0, .int .i64 x.f3.f1, .int .i64 x.f3.f2, .slice A8 x.f3.f3.length c8, .slice A9 x.f3.f4.length c9] 45 (by decide) (by decide) (by decide))
       have HFR:=Aside0.mk (free_calls g (some ad) c0 l (some ⟨gd,0,none⟩) c1 dn left v3c (wr.alloc (.cells #[.int .i64 x.f0, .int .i64 x.f1, .int .i64 x.f2.f0, .int .i64 x.f2.f1, .slice A4 x.f2.f2.length c4, .int .i64 x.f3.f0, .int .i64 x.f3.f1, .int .i64 x.f3.f2, .slice A8 x.f3.f3.length c8, .slice A9 x.f3.f4.length c9] 45)) HR1.out.1.fst HD.out i hi)
       by_cases b2:freeB l dn i=false
       ·rw [if_pos b2] at hf
        rw [b2] at HFR
        have HF:=Aside0.mk hf
        clear hf b2
        go_wp2_with (first|(go_at_call 38;(with_reducible refine HFR.out.mono ?_);rintro e w2 ⟨rfl,hb⟩;have HR3:=Aside0.mk (HR1.out.below hb);clear hb))
        go_roundg (l.length - i)
        case measure=>have:=HG.out.2;omega
        case rel=>exact ⟨i+1,kq,dn,left,v3c,od,by go_num,⟨by have:=HG.out;omega⟩,⟨by have:=HKq.out;omega,HF.out⟩,HR3⟩
       ·rw [if_neg b2] at hf
        have b2:freeB l dn i=true:=by simpa using b2
        rw [b2] at HFR
        clear b2
        obtain ⟨a,hDo,hf⟩:=Option.bind_eq_some_iff.mp hf
        obtain ⟨t,hT,hf⟩:=Option.bind_eq_some_iff.mp hf
        have HDo:=Aside0.mk hDo
        have HTk:=Aside0.mk hT
        have HF:=Aside0.mk hf
        clear hDo hT hf
        go_wp2_with (first|(go_at_call 38;(with_reducible refine HFR.out.mono ?_);rintro e w2 ⟨rfl,hb⟩;have HB2:=Aside0.mk (below_step (below_alloc (Below.refl _ _) (.cells #[.int .i64 x.f0, .int .i64 x.f1, .int .i64 x.f2.f0, .int .i64 x.f2.f1, .slice A4 x.f2.f2.length c4, .int .i64 x.f3.f0, .int .i64 x.f3.f1, .int .i64 x.f3.f2, .slice A8 x.f3.f3.length c8, .slice A9 x.f3.f4.length c9] 45)) hb);have HR2:=Aside0.mk (HR1.out.below hb);have HX2:=Aside0.mk (HX.out.below hb);have HCt:=Aside0.mk (Kd.R_reads' HR2.out.2.2.1).2;clear hb;clear HR1 HX HFR zz0 zz1 zz2 zz3 yy0 yy1 x0 x1 x2 x3 x4 x5 x6 x7 x8 x9;have p0:w2.cell? ⟨w.heap.size,0,none⟩=some (.int .i64 fl):=(blk_cell HR2.out.2.1.head 0).trans rfl;have p1:w2.cell? ⟨w.heap.size,1,none⟩=some (.slice At tr.length ct):=(blk_cell HR2.out.2.1.head 1).trans rfl;have q0:w2.cell? ⟨wr.heap.size,0,none⟩=some (.int .i64 x.f0):=(blk_cell HX2.out.head 0).trans rfl;have q1:w2.cell? ⟨wr.heap.size,1,none⟩=some (.int .i64 x.f1):=(blk_cell HX2.out.head 1).trans rfl;have q2:w2.cell? ⟨wr.heap.size,2,none⟩=some (.int .i64 x.f2.f0):=(blk_cell HX2.out.head 2).trans rfl;have q3:w2.cell? ⟨wr.heap.size,3,none⟩=some (.int .i64 x.f2.f1):=(blk_cell HX2.out.head 3).trans rfl;have q4:w2.cell? ⟨wr.heap.size,4,none⟩=some (.slice A4 x.f2.f2.length c4):=(blk_cell HX2.out.head 4).trans rfl;have q5:w2.cell? ⟨wr.heap.size,5,none⟩=some (.int .i64 x.f3.f0):=(blk_cell HX2.out.head 5).trans rfl;have q6:w2.cell? ⟨wr.heap.size,6,none⟩=some (.int .i64 x.f3.f1):=(blk_cell HX2.out.head 6).trans rfl;have q7:w2.cell? ⟨wr.heap.size,7,none⟩=some (.int .i64 x.f3.f2):=(blk_cell HX2.out.head 7).trans rfl;have q8:w2.cell? ⟨wr.heap.size,8,none⟩=some (.slice A8 x.f3.f3.length c8):=(blk_cell HX2.out.head 8).trans rfl;have q9:w2.cell? ⟨wr.heap.size,9,none⟩=some (.slice A9 x.f3.f4.length c9):=(blk_cell HX2.out.head 9).trans rfl)|(go_at_call 18;(with_reducible refine (speech_Do.calls kq fl At ct tr x.f2.f0 x.f2.f1 A4 c4 x.f2.f2 _ HCt.out.2 HCt.out.1 (Kd.C_below H4.out.2 HB2.out) H4.out.1 a HDo.out).mono ?_);rintro e w3 ⟨v1,v5,v6,rfl,hv,h5,h6,hb⟩;have HN:=Aside0.mk (show Kd.R Kd.string 9 w3 wB.heap.size (fun _=>True) v1 a.2.1 from hv.elim (fun h=>by rw [h.1,h.2];exact Kd.R_below HR2.out.2.2.1 hb) (fun h=>Kd.R_lower h HR2.out.1.2.2.2.1.size));have HR3:=Aside0.mk (HR2.out.below hb);have HX3:=Aside0.mk (HX2.out.below hb);have HB3:=Aside0.mk (below_step HB2.out hb);have H5:=Aside0.mk h5;have H6:=Aside0.mk h6;clear HCt hb hv h5 h6 p0 p1 q0 q1 q2 q3 q4 q5 q6 q7 q8 q9;obtain ⟨An,cn,rfl⟩:=Kd.R_slice HN.out;obtain ⟨Af,cf,rfl⟩:=Kd.R_slice H5.out;obtain ⟨Am,cm,rfl⟩:=Kd.R_slice H6.out))
        have HX4:=Aside0.mk ((HX3.out.cons2 w3.heap.size rfl #[.int .i64 a.1, .slice An a.2.1.length cn] 36 (by decide) (by decide) (by decide)).cons2 (w3.heap.size+1) (by simp) #[.int .i64 a.2.2.1, .int .i64 a.2.2.2.1, .int .i64 a.2.2.2.2.1, .slice Af a.2.2.2.2.2.1.length cf, .slice Am a.2.2.2.2.2.2.length cm] 39 (by decide) (by decide) (by decide))
        have hb4:=below_alloc (below_alloc (Below.refl w3.heap.size w3) (.cells #[.int .i64 a.1, .slice An a.2.1.length cn] 36)) (.cells #[.int .i64 a.2.2.1, .int .i64 a.2.2.2.1, .int .i64 a.2.2.2.2.1, .slice Af a.2.2.2.2.2.1.length cf, .slice Am a.2.2.2.2.2.2.length cm] 39)
        have HR4:=Aside0.mk (HR3.out.below hb4)
        have HB4:=Aside0.mk (below_step HB3.out hb4)
        have HN4:=Aside0.mk (Kd.R_below HN.out hb4)
        have H54:=Aside0.mk (Kd.R_below H5.out hb4)
        have H64:=Aside0.mk (Kd.R_below H6.out hb4)
        clear hb4 HR3 HX3 HB3 HN H5 H6 HR2 HX2 HB2
        generalize (w3.alloc (.cells #[.int .i64 a.1, .slice An a.2.1.length cn] 36)).alloc (.cells #[.int .i64 a.2.2.1, .int .i64 a.2.2.2.1, .int .i64 a.2.2.2.2.1, .slice Af a.2.2.2.2.2.1.length cf, .slice Am a.2.2.2.2.2.2.length cm] 39)=w4 at HX4 HR4 HB4 HN4 H54 H64 ⊢
        have HID:=Aside0.mk (idle_calls g (some ad) c0 l (some ⟨gd,0,none⟩) c1 dn left v3c w4 HR4.out.1.fst i hi)
        rw [HXe.out] at HID
        by_cases hid:idleB x=true
        ·rw [hid] at HID
         have hT:=HTk.out
         unfold takeF at hT
         rw [if_pos hid] at hT
         have hT:=Option.some.inj hT
         clear hid
         have HCH:=Aside0.mk (show speech_changes.f x.f2.f0 x.f2.f1 x.f2.f2=some (x.f2.f0 == 1 || x.f2.f0 == 5) by
          unfold speech_changes.f
          by_cases h:x.f2.f0=1
          ·simp [h]
          ·simp [h])
         generalize (x.f2.f0 == 1 || x.f2.f0 == 5)=bch at hT HCH
         cases bch with
         |false=>
          obtain rfl:t=false:=by simpa using hT.symm
          have hf:=HF.out
          rw [if_pos rfl] at hf
          clear HF hT
          have HF:=Aside0.mk hf
          clear hf
          go_wp2_with (first|(go_at_call 39;(with_reducible refine HID.out.mono ?_);rintro e w5 ⟨rfl,hb⟩;have HR5:=Aside0.mk (HR4.out.below hb);have HX5:=Aside0.mk (HX4.out.below hb);have HB5:=Aside0.mk (below_step HB4.out hb);have HN5:=Aside0.mk (Kd.R_below HN4.out hb);have H55:=Aside0.mk (Kd.R_below H54.out hb);have H65:=Aside0.mk (Kd.R_below H64.out hb);clear hb HR4 HX4 HB4 HN4 H54 H64;have q0:w5.cell? ⟨wr.heap.size,0,none⟩=some (.int .i64 x.f0):=(blk_cell HX5.out.tail.tail.head 0).trans rfl;have q1:w5.cell? ⟨wr.heap.size,1,none⟩=some (.int .i64 x.f1):=(blk_cell HX5.out.tail.tail.head 1).trans rfl;have q2:w5.cell? ⟨wr.heap.size,2,none⟩=some (.int .i64 x.f2.f0):=(blk_cell HX5.out.tail.tail.head 2).trans rfl;have q3:w5.cell? ⟨wr.heap.size,3,none⟩=some (.int .i64 x.f2.f1):=(blk_cell HX5.out.tail.tail.head 3).trans rfl;have q4:w5.cell? ⟨wr.heap.size,4,none⟩=some (.slice A4 x.f2.f2.length c4):=(blk_cell HX5.out.tail.tail.head 4).trans rfl;have q5:w5.cell? ⟨wr.heap.size,5,none⟩=some (.int .i64 x.f3.f0):=(blk_cell HX5.out.tail.tail.head 5).trans rfl;have q6:w5.cell? ⟨wr.heap.size,6,none⟩=some (.int .i64 x.f3.f1):=(blk_cell HX5.out.tail.tail.head 6).trans rfl;have q7:w5.cell? ⟨wr.heap.size,7,none⟩=some (.int .i64 x.f3.f2):=(blk_cell HX5.out.tail.tail.head 7).trans rfl;have q8:w5.cell? ⟨wr.heap.size,8,none⟩=some (.slice A8 x.f3.f3.length c8):=(blk_cell HX5.out.tail.tail.head 8).trans rfl;have q9:w5.cell? ⟨wr.heap.size,9,none⟩=some (.slice A9 x.f3.f4.length c9):=(blk_cell HX5.out.tail.tail.head 9).trans rfl;have a0:w5.cell? ⟨w3.heap.size+1,0,none⟩=some (.int .i64 a.2.2.1):=(blk_cell HX5.out.head 0).trans rfl;have a1:w5.cell? ⟨w3.heap.size+1,1,none⟩=some (.int .i64 a.2.2.2.1):=(blk_cell HX5.out.head 1).trans rfl;have a2:w5.cell? ⟨w3.heap.size+1,2,none⟩=some (.int .i64 a.2.2.2.2.1):=(blk_cell HX5.out.head 2).trans rfl;have a3:w5.cell? ⟨w3.heap.size+1,3,none⟩=some (.slice Af a.2.2.2.2.2.1.length cf):=(blk_cell HX5.out.head 3).trans rfl;have a4:w5.cell? ⟨w3.heap.size+1,4,none⟩=some (.slice Am a.2.2.2.2.2.2.length cm):=(blk_cell HX5.out.head 4).trans rfl)|(go_at_call 54;(with_reducible refine (speech_changes.calls x.f2.f0 x.f2.f1 A4 c4 x.f2.f2 _ _ (Kd.C_below H4.out.2 HB5.out) H4.out.1 HCH.out).mono ?_);rintro e w6 ⟨rfl,hb⟩;have HR6:=Aside0.mk (HR5.out.below hb);have HX6:=Aside0.mk (HX5.out.below hb);have HB6:=Aside0.mk (below_step HB5.out hb);have HN6:=Aside0.mk (Kd.R_below HN5.out hb);have H56:=Aside0.mk (Kd.R_below H55.out hb);have H66:=Aside0.mk (Kd.R_below H65.out hb);clear hb HR5 HX5 HB5 HN5 H55 H65;clear q0 q1 q2 q3 q4 q5 q6 q7 q8 q9 a0 a1 a2 a3 a4;have q0:w6.cell? ⟨wr.heap.size,0,none⟩=some (.int .i64 x.f0):=(blk_cell HX6.out.tail.tail.head 0).trans rfl;have q1:w6.cell? ⟨wr.heap.size,1,none⟩=some (.int .i64 x.f1):=(blk_cell HX6.out.tail.tail.head 1).trans rfl;have q2:w6.cell? ⟨wr.heap.size,2,none⟩=some (.int .i64 x.f2.f0):=(blk_cell HX6.out.tail.tail.head 2).trans rfl;have q3:w6.cell? ⟨wr.heap.size,3,none⟩=some (.int .i64 x.f2.f1):=(blk_cell HX6.out.tail.tail.head 3).trans rfl;have q4:w6.cell? ⟨wr.heap.size,4,none⟩=some (.slice A4 x.f2.f2.length c4):=(blk_cell HX6.out.tail.tail.head 4).trans rfl;have q5:w6.cell? ⟨wr.heap.size,5,none⟩=some (.int .i64 x.f3.f0):=(blk_cell HX6.out.tail.tail.head 5).trans rfl;have q6:w6.cell? ⟨wr.heap.size,6,none⟩=some (.int .i64 x.f3.f1):=(blk_cell HX6.out.tail.tail.head 6).trans rfl;have q7:w6.cell? ⟨wr.heap.size,7,none⟩=some (.int .i64 x.f3.f2):=(blk_cell HX6.out.tail.tail.head 7).trans rfl;have q8:w6.cell? ⟨wr.heap.size,8,none⟩=some (.slice A8 x.f3.f3.length c8):=(blk_cell HX6.out.tail.tail.head 8).trans rfl;have q9:w6.cell? ⟨wr.heap.size,9,none⟩=some (.slice A9 x.f3.f4.length c9):=(blk_cell HX6.out.tail.tail.head 9).trans rfl;have a0:w6.cell? ⟨w3.heap.size+1,0,none⟩=some (.int .i64 a.2.2.1):=(blk_cell HX6.out.head 0).trans rfl;have a1:w6.cell? ⟨w3.heap.size+1,1,none⟩=some (.int .i64 a.2.2.2.1):=(blk_cell HX6.out.head 1).trans rfl;have a2:w6.cell? ⟨w3.heap.size+1,2,none⟩=some (.int .i64 a.2.2.2.2.1):=(blk_cell HX6.out.head 2).trans rfl;have a3:w6.cell? ⟨w3.heap.size+1,3,none⟩=some (.slice Af a.2.2.2.2.2.1.length cf):=(blk_cell HX6.out.head 3).trans rfl;have a4:w6.cell? ⟨w3.heap.size+1,4,none⟩=some (.slice Am a.2.2.2.2.2.2.length cm):=(blk_cell HX6.out.head 4).trans rfl))
          go_roundg (l.length - i)
          case measure=>have:=HG.out.2;omega
          case rel=>exact ⟨i+1,kq,dn,left,v3c,od,by go_num,⟨by have:=HG.out;omega⟩,⟨by have:=HKq.out;omega,HF.out⟩,HR6⟩
         |true=>
          rw [Bool.true_and] at hT
          by_cases he:a.2.2.1=0
          ·have heb:(a.2.2.1 == 0)=true:=beq_iff_eq.mpr he
           have hec:(a.2.2.1 != 0)=false:=bne_eq_false_iff_eq.mpr he
           obtain rfl:t=true:=by rw [← hT];exact heb
           clear he hT
           have hf:=HF.out
           rw [if_neg (by decide)] at hf
           clear HF
           by_cases hL:od.length < 1000000000000
           ·rw [if_pos hL] at hf
            have HLo:=Aside0.mk hL
            clear hL
            obtain ⟨⟨rb,rdn,rl,ro⟩,hfi,hf⟩:=Option.bind_eq_some_iff.mp hf
            obtain ⟨y,hy⟩: ∃y:List Int,y=od++[(i:Int)]:=⟨_,rfl⟩
            rw [← hy] at hfi
            have HY:=Aside0.mk hy
            have HFI:=Aside0.mk hfi
            clear hy hfi
            cases rb with
            |true=>
             rw [if_pos rfl] at hf
             obtain rfl:=Option.some.inj hf
             clear hf
             go_wp2_with (first|(go_at_call 39;(with_reducible refine HID.out.mono ?_);rintro e w5 ⟨rfl,hb⟩;have HR5:=Aside0.mk (HR4.out.below hb);have HX5:=Aside0.mk (HX4.out.below hb);have HB5:=Aside0.mk (below_step HB4.out hb);have HN5:=Aside0.mk (Kd.R_below HN4.out hb);have H55:=Aside0.mk (Kd.R_below H54.out hb);have H65:=Aside0.mk (Kd.R_below H64.out hb);clear hb HR4 HX4 HB4 HN4 H54 H64;have q0:w5.cell? ⟨wr.heap.size,0,none⟩=some (.int .i64 x.f0):=(blk_cell HX5.out.tail.tail.head 0).trans rfl;have q1:w5.cell? ⟨wr.heap.size,1,none⟩=some (.int .i64 x.f1):=(blk_cell HX5.out.tail.tail.head 1).trans rfl;have q2:w5.cell? ⟨wr.heap.size,2,none⟩=some (.int .i64 x.f2.f0):=(blk_cell HX5.out.tail.tail.head 2).trans rfl;have q3:w5.cell? ⟨wr.heap.size,3,none⟩=some (.int .i64 x.f2.f1):=(blk_cell HX5.out.tail.tail.head 3).trans rfl;have q4:w5.cell? ⟨wr.heap.size,4,none⟩=some (.slice A4 x.f2.f2.length c4):=(blk_cell HX5.out.tail.tail.head 4).trans rfl;have q5:w5.cell? ⟨wr.heap.size,5,none⟩=some (.int .i64 x.f3.f0):=(blk_cell HX5.out.tail.tail.head 5).trans rfl;have q6:w5.cell? ⟨wr.heap.size,6,none⟩=some (.int .i64 x.f3.f1):=(blk_cell HX5.out.tail.tail.head 6).trans rfl;have q7:w5.cell? ⟨wr.heap.size,7,none⟩=some (.int .i64 x.f3.f2):=(blk_cell HX5.out.tail.tail.head 7).trans rfl;have q8:w5.cell? ⟨wr.heap.size,8,none⟩=some (.slice A8 x.f3.f3.length c8):=(blk_cell HX5.out.tail.tail.head 8).trans rfl;have q9:w5.cell? ⟨wr.heap.size,9,none⟩=some (.slice A9 x.f3.f4.length c9):=(blk_cell HX5.out.tail.tail.head 9).trans rfl;have a0:w5.cell? ⟨w3.heap.size+1,0,none⟩=some (.int .i64 a.2.2.1):=(blk_cell HX5.out.head 0).trans rfl;have a1:w5.cell? ⟨w3.heap.size+1,1,none⟩=some (.int .i64 a.2.2.2.1):=(blk_cell HX5.out.head 1).trans rfl;have a2:w5.cell? ⟨w3.heap.size+1,2,none⟩=some (.int .i64 a.2.2.2.2.1):=(blk_cell HX5.out.head 2).trans rfl;have a3:w5.cell? ⟨w3.heap.size+1,3,none⟩=some (.slice Af a.2.2.2.2.2.1.length cf):=(blk_cell HX5.out.head 3).trans rfl;have a4:w5.cell? ⟨w3.heap.size+1,4,none⟩=some (.slice Am a.2.2.2.2.2.2.length cm):=(blk_cell HX5.out.head 4).trans rfl)|(go_at_call 54;(with_reducible refine (speech_changes.calls x.f2.f0 x.f2.f1 A4 c4 x.f2.f2 _ _ (Kd.C_below H4.out.2 HB5.out) H4.out.1 HCH.out).mono ?_);rintro e w6 ⟨rfl,hb⟩;have HR6:=Aside0.mk (HR5.out.below hb);have HX6:=Aside0.mk (HX5.out.below hb);have HB6:=Aside0.mk (below_step HB5.out hb);have HN6:=Aside0.mk (Kd.R_below HN5.out hb);have H56:=Aside0.mk (Kd.R_below H55.out hb);have H66:=Aside0.mk (Kd.R_below H65.out hb);clear hb HR5 HX5 HB5 HN5 H55 H65;clear q0 q1 q2 q3 q4 q5 q6 q7 q8 q9 a0 a1 a2 a3 a4;obtain ⟨A3,c3,rfl⟩:=Kd.R_slice HR6.out.1.2.2.2.2.2.2.1;obtain ⟨g0,g1,g2,g3⟩:=HR6.out.1.cells;have f3:=blk_frozen HR6.out.1.1 3;obtain ⟨d0,d1⟩:=Kd.R_celln (enc:=Value.bool) (h1:=fun _=>rfl) false HR6.out.1.2.2.2.2.2.1 (i:Int) (by omega) (by omega);rw [Int.toNat_natCast] at d0 d1;have hne:g≠gd:=fun e=>Kd.R_ne HR6.out.1.2.2.2.2.2.1 HR6.out.1.1 (by decide) (by rw [e];rfl);have hne2:gd≠g:=fun e=>hne e.symm;have q0:w6.cell? ⟨wr.heap.size,0,none⟩=some (.int .i64 x.f0):=(blk_cell HX6.out.tail.tail.head 0).trans rfl;have q1:w6.cell? ⟨wr.heap.size,1,none⟩=some (.int .i64 x.f1):=(blk_cell HX6.out.tail.tail.head 1).trans rfl;have q2:w6.cell? ⟨wr.heap.size,2,none⟩=some (.int .i64 x.f2.f0):=(blk_cell HX6.out.tail.tail.head 2).trans rfl;have q3:w6.cell? ⟨wr.heap.size,3,none⟩=some (.int .i64 x.f2.f1):=(blk_cell HX6.out.tail.tail.head 3).trans rfl;have q4:w6.cell? ⟨wr.heap.size,4,none⟩=some (.slice A4 x.f2.f2.length c4):=(blk_cell HX6.out.tail.tail.head 4).trans rfl;have q5:w6.cell? ⟨wr.heap.size,5,none⟩=some (.int .i64 x.f3.f0):=(blk_cell HX6.out.tail.tail.head 5).trans rfl;have q6:w6.cell? ⟨wr.heap.size,6,none⟩=some (.int .i64 x.f3.f1):=(blk_cell HX6.out.tail.tail.head 6).trans rfl;have q7:w6.cell? ⟨wr.heap.size,7,none⟩=some (.int .i64 x.f3.f2):=(blk_cell HX6.out.tail.tail.head 7).trans rfl;have q8:w6.cell? ⟨wr.heap.size,8,none⟩=some (.slice A8 x.f3.f3.length c8):=(blk_cell HX6.out.tail.tail.head 8).trans rfl;have q9:w6.cell? ⟨wr.heap.size,9,none⟩=some (.slice A9 x.f3.f4.length c9):=(blk_cell HX6.out.tail.tail.head 9).trans rfl;have a0:w6.cell? ⟨w3.heap.size+1,0,none⟩=some (.int .i64 a.2.2.1):=(blk_cell HX6.out.head 0).trans rfl;have a1:w6.cell? ⟨w3.heap.size+1,1,none⟩=some (.int .i64 a.2.2.2.1):=(blk_cell HX6.out.head 1).trans rfl;have a2:w6.cell? ⟨w3.heap.size+1,2,none⟩=some (.int .i64 a.2.2.2.2.1):=(blk_cell HX6.out.head 2).trans rfl;have a3:w6.cell? ⟨w3.heap.size+1,3,none⟩=some (.slice Af a.2.2.2.2.2.1.length cf):=(blk_cell HX6.out.head 3).trans rfl;have a4:w6.cell? ⟨w3.heap.size+1,4,none⟩=some (.slice Am a.2.2.2.2.2.2.length cm):=(blk_cell HX6.out.head 4).trans rfl)|((with_reducible refine gate_dst (N:=93) rfl ?_);have hK7:Kept w6 (w6.setCell ⟨gd,i,none⟩ (.bool true)) (FS g (.slice (some ⟨gd,0,none⟩) l.length c1) (.slice A3 od.length c3)):=(Kept.refl w6 _).setCell (.inl (.inr (.inl rfl))) _;have HR7:=Aside0.mk (HR6.out.go (HR6.out.1.setDone i true HGD.out) hK7 (fun k hk=> .inl hk.symm));have HX7:=Aside0.mk (HX6.out.kept HR6.out.1 hK7);have HN7:=Aside0.mk (HR6.out.1.keep_row HN6.out (by decide) hK7);clear hK7 HR6 HX6 HN6 HB6 g0 g1 g2 g3 f3 d0 d1;refine Kd.R_lit (Kd.int .i64) (w0:=wB) wB.heap.size 3 ?hg (N:=93) ?hd (xs:=([(i:Int)]:List Int)) (inner:=[.int .i64 i]) (ok:=fun _=>True) (okp:=fun _=>True) ?hr ?hp (fun _ hk=>hk) trivial HR7.out.1.2.2.2.1 HR7.out.1.2.2.2.1.size (by simp) ?_;(case hd=>rfl);(case hg=>rfl);(case hr=>first|(go_simp;done)|(go_simp;rfl));(case hp=>exact (Reps.one (show Kd.M (Kd.int .i64) _ _ _ (i:Int) [.int .i64 i] from rfl) (Reps.none _ _)));intro v9 w8 g9 hb hg_ hnew_;have hb8:=below_grown hg_;have HR8:=Aside0.mk (HR7.out.below hb8);have HX8:=Aside0.mk (HX7.out.below hb8);have HN8:=Aside0.mk (Kd.R_below HN7.out hb8);have HL8:=Aside0.mk g9;clear g9 hb hg_ hnew_ hb8 HR7 HX7 HN7;obtain ⟨A9_,c9_,rfl⟩:=Kd.R_slice HL8.out)|((with_reducible refine gate_builtin (b:= .append) (xs:=#[.tmp 91, .tmp 93]) rfl ?_);at_builtin;refine Kd.R_append_rows (Kd.int .i64) (w0:=wB) wB.heap.size rfl (.tmp 91) (.tmp 93) 23 3 (.int .i64 0) 8 rfl Tryd.underlying23 info3 rfl (by decide) (by omega) (.slice A3 od.length c3) od [(i:Int)] _ _ _ (fun _=>True) (fun _=>False) rfl rfl HR8.out.1.2.2.2.2.2.2.1 ?aR (fun _ _ h=>h) (fun _ h=>h.elim) (fun _ _=>trivial) HR8.out.1.2.2.2.1 HR8.out.1.2.2.2.1.size ?aL ?_;(case aR=>exact (Kd.R_reads' HL8.out).2.2);(case aL=>have:=HLo.out;show (od.length+1)*8≤_;omega);intro v3n w9 ho hb hg hat;rw [← HY.out] at ho;obtain ⟨An3,cn3,rfl⟩:=Kd.R_slice ho;have gg:=blk_grown HR8.out.1.1 hg (Kd.R_ne HR8.out.1.2.2.2.2.2.2.1 HR8.out.1.1 (by decide));have hK:Kept w8 (w9.setCell ⟨g,3,none⟩ (.slice An3 y.length cn3)) (FS g (.slice (some ⟨gd,0,none⟩) l.length c1) (.slice A3 od.length c3)):=(Kept.of_grown hg (Kept.refl w8 _) (fun k h=> .inl (.inr (.inr h.symm)))).setCell (.inl (.inl rfl)) _;have HR10:=Aside0.mk (HR8.out.go (Fnd.setOrd HR8.out.1 hg hb ho) hK (fun k hk=>hat.elim (fun e=> .inl (by rw [← e,hk])) (fun ⟨b,e,hle⟩=> .inr (by rw [e] at hk;injection hk with hk;omega))));have HX10:=Aside0.mk (HX8.out.kept HR8.out.1 hK);have HN10:=Aside0.mk (HR8.out.1.keep_row HN8.out (by decide) hK);have e3:w9.cell? ⟨g,3,none⟩=some (.slice A3 od.length c3):=(blk_cell gg 3).trans rfl;have ef3:=blk_frozen gg 3;have e0:(w9.setCell ⟨g,3,none⟩ (.slice An3 y.length cn3)).cell? ⟨w3.heap.size,0,none⟩=some (.int .i64 a.1):=(blk_cell HX10.out.tail.head 0).trans rfl;have e1:(w9.setCell ⟨g,3,none⟩ (.slice An3 y.length cn3)).cell? ⟨w3.heap.size,1,none⟩=some (.slice An a.2.1.length cn):=(blk_cell HX10.out.tail.head 1).trans rfl;have en:w3.heap.size≠g:=fun e=>(by have h_:=HX10.out.tail.head;rw [e,HR10.out.1.1] at h_;simp at h_);have en2:g≠w3.heap.size:=fun e=>en e.symm;have HRF:=Aside0.mk HR10.out.1;clear ho hb hg hat gg hK HR8 HX8 HN8 HL8)|(go_at_call 37;(with_reducible refine (HIH.out kq (by have:=HKq.out;omega) wB g _ c0 l _ c1 (dn.set i true) left _ y a.1 An cn a.2.1 _ _ HFI.out HRF.out HN10.out).mono ?_);rintro e w12 ⟨v3f,rfl,hF,hK,hv⟩;have HR12:=Aside0.mk (HR10.out.go hF hK hv);clear hF hK hv HR10 HX10 HN10 HRF q0 q1 q2 q3 q4 q5 q6 q7 q8 q9))
             (try rw [Exit.noGoto_ret])
             go_ret
             exact ⟨v3f,rfl,HR12.out.1,HR12.out.2.2.2.1,HR12.out.2.2.2.2⟩
            |false=>
             replace hf:(if 1≤ro.length then find.l0 kq l (rdn.set i false) rl (ro.take (ro.length - 1)) fl tr (i+1) else none)=some r:=hf
             by_cases h1:1≤ro.length
             ·rw [if_pos h1] at hf
              have HF:=Aside0.mk hf
              have H1:=Aside0.mk h1
              clear hf h1
              go_wp2_with (first|(go_at_call 39;(with_reducible refine HID.out.mono ?_);rintro e w5 ⟨rfl,hb⟩;have HR5:=Aside0.mk (HR4.out.below hb);have HX5:=Aside0.mk (HX4.out.below hb);have HB5:=Aside0.mk (below_step HB4.out hb);have HN5:=Aside0.mk (Kd.R_below HN4.out hb);have H55:=Aside0.mk (Kd.R_below H54.out hb);have H65:=Aside0.mk (Kd.R_below H64.out hb);clear hb HR4 HX4 HB4 HN4 H54 H64;have q0:w5.cell? ⟨wr.heap.size,0,none⟩=some (.int .i64 x.f0):=(blk_cell HX5.out.tail.tail.head 0).trans rfl;have q1:w5.cell? ⟨wr.heap.size,1,none⟩=some (.int .i64 x.f1):=(blk_cell HX5.out.tail.tail.head 1).trans rfl;have q2:w5.cell? ⟨wr.heap.size,2,none⟩=some (.int .i64 x.f2.f0):=(blk_cell HX5.out.tail.tail.head 2).trans rfl;have q3:w5.cell? ⟨wr.heap.size,3,none⟩=some (.int .i64 x.f2.f1):=(blk_cell HX5.out.tail.tail.head 3).trans rfl;have q4:w5.cell? ⟨wr.heap.size,4,none⟩=some (.slice A4 x.f2.f2.length c4):=(blk_cell HX5.out.tail.tail.head 4).trans rfl;have q5:w5.cell? ⟨wr.heap.size,5,none⟩=some (.int .i64 x.f3.f0):=(blk_cell HX5.out.tail.tail.head 5).trans rfl;have q6:w5.cell? ⟨wr.heap.size,6,none⟩=some (.int .i64 x.f3.f1):=(blk_cell HX5.out.tail.tail.head 6).trans rfl;have q7:w5.cell? ⟨wr.heap.size,7,none⟩=some (.int .i64 x.f3.f2):=(blk_cell HX5.out.tail.tail.head 7).trans rfl;have q8:w5.cell? ⟨wr.heap.size,8,none⟩=some (.slice A8 x.f3.f3.length c8):=(blk_cell HX5.out.tail.tail.head 8).trans rfl;have q9:w5.cell? ⟨wr.heap.size,9,none⟩=some (.slice A9 x.f3.f4.length c9):=(blk_cell HX5.out.tail.tail.head 9).trans rfl;have a0:w5.cell? ⟨w3.heap.size+1,0,none⟩=some (.int .i64 a.2.2.1):=(blk_cell HX5.out.head 0).trans rfl;have a1:w5.cell? ⟨w3.heap.size+1,1,none⟩=some (.int .i64 a.2.2.2.1):=(blk_cell HX5.out.head 1).trans rfl;have a2:w5.cell? ⟨w3.heap.size+1,2,none⟩=some (.int .i64 a.2.2.2.2.1):=(blk_cell HX5.out.head 2).trans rfl;have a3:w5.cell? ⟨w3.heap.size+1,3,none⟩=some (.slice Af a.2.2.2.2.2.1.length cf):=(blk_cell HX5.out.head 3).trans rfl;have a4:w5.cell? ⟨w3.heap.size+1,4,none⟩=some (.slice Am a.2.2.2.2.2.2.length cm):=(blk_cell HX5.out.head 4).trans rfl)|(go_at_call 54;(with_reducible refine (speech_changes.calls x.f2.f0 x.f2.f1 A4 c4 x.f2.f2 _ _ (Kd.C_below H4.out.2 HB5.out) H4.out.1 HCH.out).mono ?_);rintro e w6 ⟨rfl,hb⟩;have HR6:=Aside0.mk (HR5.out.below hb);have HX6:=Aside0.mk (HX5.out.below hb);have HB6:=Aside0.mk (below_step HB5.out hb);have HN6:=Aside0.mk (Kd.R_below HN5.out hb);have H56:=Aside0.mk (Kd.R_below H55.out hb);have H66:=Aside0.mk (Kd.R_below H65.out hb);clear hb HR5 HX5 HB5 HN5 H55 H65;clear q0 q1 q2 q3 q4 q5 q6 q7 q8 q9 a0 a1 a2 a3 a4;obtain ⟨A3,c3,rfl⟩:=Kd.R_slice HR6.out.1.2.2.2.2.2.2.1;obtain ⟨g0,g1,g2,g3⟩:=HR6.out.1.cells;have f3:=blk_frozen HR6.out.1.1 3;obtain ⟨d0,d1⟩:=Kd.R_celln (enc:=Value.bool) (h1:=fun _=>rfl) false HR6.out.1.2.2.2.2.2.1 (i:Int) (by omega) (by omega);rw [Int.toNat_natCast] at d0 d1;have hne:g≠gd:=fun e=>Kd.R_ne HR6.out.1.2.2.2.2.2.1 HR6.out.1.1 (by decide) (by rw [e];rfl);have hne2:gd≠g:=fun e=>hne e.symm;have q0:w6.cell? ⟨wr.heap.size,0,none⟩=some (.int .i64 x.f0):=(blk_cell HX6.out.tail.tail.head 0).trans rfl;have q1:w6.cell? ⟨wr.heap.size,1,none⟩=some (.int .i64 x.f1):=(blk_cell HX6.out.tail.tail.head 1).trans rfl;have q2:w6.cell? ⟨wr.heap.size,2,none⟩=some (.int .i64 x.f2.f0):=(blk_cell HX6.out.tail.tail.head 2).trans rfl;have q3:w6.cell? ⟨wr.heap.size,3,none⟩=some (.int .i64 x.f2.f1):=(blk_cell HX6.out.tail.tail.head 3).trans rfl;have q4:w6.cell? ⟨wr.heap.size,4,none⟩=some (.slice A4 x.f2.f2.length c4):=(blk_cell HX6.out.tail.tail.head 4).trans rfl;have q5:w6.cell? ⟨wr.heap.size,5,none⟩=some (.int .i64 x.f3.f0):=(blk_cell HX6.out.tail.tail.head 5).trans rfl;have q6:w6.cell? ⟨wr.heap.size,6,none⟩=some (.int .i64 x.f3.f1):=(blk_cell HX6.out.tail.tail.head 6).trans rfl;have q7:w6.cell? ⟨wr.heap.size,7,none⟩=some (.int .i64 x.f3.f2):=(blk_cell HX6.out.tail.tail.head 7).trans rfl;have q8:w6.cell? ⟨wr.heap.size,8,none⟩=some (.slice A8 x.f3.f3.length c8):=(blk_cell HX6.out.tail.tail.head 8).trans rfl;have q9:w6.cell? ⟨wr.heap.size,9,none⟩=some (.slice A9 x.f3.f4.length c9):=(blk_cell HX6.out.tail.tail.head 9).trans rfl;have a0:w6.cell? ⟨w3.heap.size+1,0,none⟩=some (.int .i64 a.2.2.1):=(blk_cell HX6.out.head 0).trans rfl;have a1:w6.cell? ⟨w3.heap.size+1,1,none⟩=some (.int .i64 a.2.2.2.1):=(blk_cell HX6.out.head 1).trans rfl;have a2:w6.cell? ⟨w3.heap.size+1,2,none⟩=some (.int .i64 a.2.2.2.2.1):=(blk_cell HX6.out.head 2).trans rfl;have a3:w6.cell? ⟨w3.heap.size+1,3,none⟩=some (.slice Af a.2.2.2.2.2.1.length cf):=(blk_cell HX6.out.head 3).trans rfl;have a4:w6.cell? ⟨w3.heap.size+1,4,none⟩=some (.slice Am a.2.2.2.2.2.2.length cm):=(blk_cell HX6.out.head 4).trans rfl)|((with_reducible refine gate_dst (N:=93) rfl ?_);have hK7:Kept w6 (w6.setCell ⟨gd,i,none⟩ (.bool true)) (FS g (.slice (some ⟨gd,0,none⟩) l.length c1) (.slice A3 od.length c3)):=(Kept.refl w6 _).setCell (.inl (.inr (.inl rfl))) _;have HR7:=Aside0.mk (HR6.out.go (HR6.out.1.setDone i true HGD.out) hK7 (fun k hk=> .inl hk.symm));have HX7:=Aside0.mk (HX6.out.kept HR6.out.1 hK7);have HN7:=Aside0.mk (HR6.out.1.keep_row HN6.out (by decide) hK7);clear hK7 HR6 HX6 HN6 HB6 g0 g1 g2 g3 f3 d0 d1;refine Kd.R_lit (Kd.int .i64) (w0:=wB) wB.heap.size 3 ?hg (N:=93) ?hd (xs:=([(i:Int)]:List Int)) (inner:=[.int .i64 i]) (ok:=fun _=>True) (okp:=fun _=>True) ?hr ?hp (fun _ hk=>hk) trivial HR7.out.1.2.2.2.1 HR7.out.1.2.2.2.1.size (by simp) ?_;(case hd=>rfl);(case hg=>rfl);(case hr=>first|(go_simp;done)|(go_simp;rfl));(case hp=>exact (Reps.one (show Kd.M (Kd.int .i64) _ _ _ (i:Int) [.int .i64 i] from rfl) (Reps.none _ _)));intro v9 w8 g9 hb hg_ hnew_;have hb8:=below_grown hg_;have HR8:=Aside0.mk (HR7.out.below hb8);have HX8:=Aside0.mk (HX7.out.below hb8);have HN8:=Aside0.mk (Kd.R_below HN7.out hb8);have HL8:=Aside0.mk g9;clear g9 hb hg_ hnew_ hb8 HR7 HX7 HN7;obtain ⟨A9_,c9_,rfl⟩:=Kd.R_slice HL8.out)|((with_reducible refine gate_builtin (b:= .append) (xs:=#[.tmp 91, .tmp 93]) rfl ?_);at_builtin;refine Kd.R_append_rows (Kd.int .i64) (w0:=wB) wB.heap.size rfl (.tmp 91) (.tmp 93) 23 3 (.int .i64 0) 8 rfl Tryd.underlying23 info3 rfl (by decide) (by omega) (.slice A3 od.length c3) od [(i:Int)] _ _ _ (fun _=>True) (fun _=>False) rfl rfl HR8.out.1.2.2.2.2.2.2.1 ?aR (fun _ _ h=>h) (fun _ h=>h.elim) (fun _ _=>trivial) HR8.out.1.2.2.2.1 HR8.out.1.2.2.2.1.size ?aL ?_;(case aR=>exact (Kd.R_reads' HL8.out).2.2);(case aL=>have:=HLo.out;show (od.length+1)*8≤_;omega);intro v3n w9 ho hb hg hat;rw [← HY.out] at ho;obtain ⟨An3,cn3,rfl⟩:=Kd.R_slice ho;have gg:=blk_grown HR8.out.1.1 hg (Kd.R_ne HR8.out.1.2.2.2.2.2.2.1 HR8.out.1.1 (by decide));have hK:Kept w8 (w9.setCell ⟨g,3,none⟩ (.slice An3 y.length cn3)) (FS g (.slice (some ⟨gd,0,none⟩) l.length c1) (.slice A3 od.length c3)):=(Kept.of_grown hg (Kept.refl w8 _) (fun k h=> .inl (.inr (.inr h.symm)))).setCell (.inl (.inl rfl)) _;have HR10:=Aside0.mk (HR8.out.go (Fnd.setOrd HR8.out.1 hg hb ho) hK (fun k hk=>hat.elim (fun e=> .inl (by rw [← e,hk])) (fun ⟨b,e,hle⟩=> .inr (by rw [e] at hk;injection hk with hk;omega))));have HX10:=Aside0.mk (HX8.out.kept HR8.out.1 hK);have HN10:=Aside0.mk (HR8.out.1.keep_row HN8.out (by decide) hK);have e3:w9.cell? ⟨g,3,none⟩=some (.slice A3 od.length c3):=(blk_cell gg 3).trans rfl;have ef3:=blk_frozen gg 3;have e0:(w9.setCell ⟨g,3,none⟩ (.slice An3 y.length cn3)).cell? ⟨w3.heap.size,0,none⟩=some (.int .i64 a.1):=(blk_cell HX10.out.tail.head 0).trans rfl;have e1:(w9.setCell ⟨g,3,none⟩ (.slice An3 y.length cn3)).cell? ⟨w3.heap.size,1,none⟩=some (.slice An a.2.1.length cn):=(blk_cell HX10.out.tail.head 1).trans rfl;have en:w3.heap.size≠g:=fun e=>(by have h_:=HX10.out.tail.head;rw [e,HR10.out.1.1] at h_;simp at h_);have en2:g≠w3.heap.size:=fun e=>en e.symm;have HRF:=Aside0.mk HR10.out.1;clear ho hb hg hat gg hK HR8 HX8 HN8 HL8)|(go_at_call 37;(with_reducible refine (HIH.out kq (by have:=HKq.out;omega) wB g _ c0 l _ c1 (dn.set i true) left _ y a.1 An cn a.2.1 _ _ HFI.out HRF.out HN10.out).mono ?_);rintro e w12 ⟨v3f,rfl,hF,hK,hv⟩;have HR12:=Aside0.mk (HR10.out.go hF hK hv);obtain ⟨A5,c5,rfl⟩:=Kd.R_slice HR12.out.1.2.2.2.2.2.2.1;obtain ⟨g0,g1,g2,g3⟩:=HR12.out.1.cells;have f3:=blk_frozen HR12.out.1.1 3;clear hF hK hv HR10 HX10 HN10 HRF q0 q1 q2 q3 q4 q5 q6 q7 q8 q9))
              have hro:=Kd.C_max (Kd.R_reads' HR12.out.1.2.2.2.2.2.2.1).2.2
              have hrc:=(Kd.R_reads' HR12.out.1.2.2.2.2.2.2.1).2.1
              have ew:wrap64 ((ro.length:Int) - 1)=((ro.length - 1:Nat):Int):=by have:=H1.out;unfold wrap64;omega
              have ew0:=eq_true (show (0:Int)≤wrap64 ((ro.length:Int) - 1) by rw [ew];omega)
              have ewc:=eq_true (show wrap64 ((ro.length:Int) - 1)≤(c5:Int) by rw [ew];omega)
              have ewn:(wrap64 ((ro.length:Int) - 1)).toNat=ro.length - 1:=by rw [ew];omega
              have ev0:=eq_true (show (0:Int)≤IntKind.i64.wrap ((ro.length:Int) - 1) by rw [IntKind.wrap_i64];have h_:=ew0;unfold wrap64 at h_;exact of_eq_true h_)
              have evc:=eq_true (show IntKind.i64.wrap ((ro.length:Int) - 1)≤(c5:Int) by rw [IntKind.wrap_i64];have h_:=ewc;unfold wrap64 at h_;exact of_eq_true h_)
              have evn:(IntKind.i64.wrap ((ro.length:Int) - 1)).toNat=ro.length - 1:=by rw [IntKind.wrap_i64];have h_:=ewn;unfold wrap64 at h_;exact h_
              clear ew
              go_region
              all_goals
               have HRT:=Kd.R_take (m:=ro.length - 1) HR12.out.1.2.2.2.2.2.2.1 (by omega)
               obtain ⟨y,hy⟩: ∃y:List Int,y=ro.take (ro.length - 1):=⟨_,rfl⟩
               have hyl:ro.length - 1=y.length:=by rw [hy];simp
               rw [← hy] at HRT
               rw [hyl] at HRT ⊢
               have HF:=Aside0.mk (hy ▸ HF.out)
               have HR13:=Aside0.mk ((HR12.out.go (Fnd.setOrd HR12.out.1 (grown_refl _ _) HR12.out.1.2.2.2.1 HRT) ((Kept.refl w12 _).setCell (.inl (.inl rfl)) _) (fun k hk=> .inl (by cases A5<;>exact hk.symm))).below (below_drew (Below.refl _ _)))
               clear hy hyl HRT HR12 g0 g1 g2 g3 f3 ew0 ewc ewn ev0 evc evn hro hrc
               generalize (w12.setCell ⟨g,3,none⟩ (.slice A5 y.length c5)).drew=w13 at HR13 ⊢
               obtain ⟨g0,g1,g2,g3⟩:=HR13.out.1.cells
               obtain ⟨d0,d1⟩:=Kd.R_celln (enc:=Value.bool) (h1:=fun _=>rfl) false HR13.out.1.2.2.2.2.2.1 (i:Int) (by omega) (by omega)
               rw [Int.toNat_natCast] at d0 d1
               have HR14:=Aside0.mk (HR13.out.go (HR13.out.1.setDone i false HGD.out) ((Kept.refl w13 _).setCell (.inl (.inr (.inl rfl))) _) (fun k hk=> .inl hk.symm))
               go_wp2_with fail
               go_roundg (l.length - i)
               case measure=>have:=HG.out.2;omega
               case rel=>exact ⟨i+1,kq,(rdn.set i false),rl,_,y,by go_num,⟨by have:=HG.out;omega⟩,⟨by have:=HKq.out;omega,HF.out⟩,HR14⟩
             ·rw [if_neg h1] at hf
              exact absurd hf (by simp)
           ·rw [if_neg hL] at hf
            exact absurd hf (by simp)
          ·have heb:(a.2.2.1 == 0)=false:=beq_eq_false_iff_ne.mpr he
           have hec:(a.2.2.1 != 0)=true:=bne_iff_ne.mpr he
           obtain rfl:t=false:=by rw [← hT];exact heb
           have hf:=HF.out
           rw [if_pos rfl] at hf
           clear HF hT he
           have HF:=Aside0.mk hf
           clear hf
           go_wp2_with (first|(go_at_call 39;(with_reducible refine HID.out.mono ?_);rintro e w5 ⟨rfl,hb⟩;have HR5:=Aside0.mk (HR4.out.below hb);have HX5:=Aside0.mk (HX4.out.below hb);have HB5:=Aside0.mk (below_step HB4.out hb);have HN5:=Aside0.mk (Kd.R_below HN4.out hb);have H55:=Aside0.mk (Kd.R_below H54.out hb);have H65:=Aside0.mk (Kd.R_below H64.out hb);clear hb HR4 HX4 HB4 HN4 H54 H64;have q0:w5.cell? ⟨wr.heap.size,0,none⟩=some (.int .i64 x.f0):=(blk_cell HX5.out.tail.tail.head 0).trans rfl;have q1:w5.cell? ⟨wr.heap.size,1,none⟩=some (.int .i64 x.f1):=(blk_cell HX5.out.tail.tail.head 1).trans rfl;have q2:w5.cell? ⟨wr.heap.size,2,none⟩=some (.int .i64 x.f2.f0):=(blk_cell HX5.out.tail.tail.head 2).trans rfl;have q3:w5.cell? ⟨wr.heap.size,3,none⟩=some (.int .i64 x.f2.f1):=(blk_cell HX5.out.tail.tail.head 3).trans rfl;have q4:w5.cell? ⟨wr.heap.size,4,none⟩=some (.slice A4 x.f2.f2.length c4):=(blk_cell HX5.out.tail.tail.head 4).trans rfl;have q5:w5.cell? ⟨wr.heap.size,5,none⟩=some (.int .i64 x.f3.f0):=(blk_cell HX5.out.tail.tail.head 5).trans rfl;have q6:w5.cell? ⟨wr.heap.size,6,none⟩=some (.int .i64 x.f3.f1):=(blk_cell HX5.out.tail.tail.head 6).trans rfl;have q7:w5.cell? ⟨wr.heap.size,7,none⟩=some (.int .i64 x.f3.f2):=(blk_cell HX5.out.tail.tail.head 7).trans rfl;have q8:w5.cell? ⟨wr.heap.size,8,none⟩=some (.slice A8 x.f3.f3.length c8):=(blk_cell HX5.out.tail.tail.head 8).trans rfl;have q9:w5.cell? ⟨wr.heap.size,9,none⟩=some (.slice A9 x.f3.f4.length c9):=(blk_cell HX5.out.tail.tail.head 9).trans rfl;have a0:w5.cell? ⟨w3.heap.size+1,0,none⟩=some (.int .i64 a.2.2.1):=(blk_cell HX5.out.head 0).trans rfl;have a1:w5.cell? ⟨w3.heap.size+1,1,none⟩=some (.int .i64 a.2.2.2.1):=(blk_cell HX5.out.head 1).trans rfl;have a2:w5.cell? ⟨w3.heap.size+1,2,none⟩=some (.int .i64 a.2.2.2.2.1):=(blk_cell HX5.out.head 2).trans rfl;have a3:w5.cell? ⟨w3.heap.size+1,3,none⟩=some (.slice Af a.2.2.2.2.2.1.length cf):=(blk_cell HX5.out.head 3).trans rfl;have a4:w5.cell? ⟨w3.heap.size+1,4,none⟩=some (.slice Am a.2.2.2.2.2.2.length cm):=(blk_cell HX5.out.head 4).trans rfl)|(go_at_call 54;(with_reducible refine (speech_changes.calls x.f2.f0 x.f2.f1 A4 c4 x.f2.f2 _ _ (Kd.C_below H4.out.2 HB5.out) H4.out.1 HCH.out).mono ?_);rintro e w6 ⟨rfl,hb⟩;have HR6:=Aside0.mk (HR5.out.below hb);have HX6:=Aside0.mk (HX5.out.below hb);have HB6:=Aside0.mk (below_step HB5.out hb);have HN6:=Aside0.mk (Kd.R_below HN5.out hb);have H56:=Aside0.mk (Kd.R_below H55.out hb);have H66:=Aside0.mk (Kd.R_below H65.out hb);clear hb HR5 HX5 HB5 HN5 H55 H65;clear q0 q1 q2 q3 q4 q5 q6 q7 q8 q9 a0 a1 a2 a3 a4;have q0:w6.cell? ⟨wr.heap.size,0,none⟩=some (.int .i64 x.f0):=(blk_cell HX6.out.tail.tail.head 0).trans rfl;have q1:w6.cell? ⟨wr.heap.size,1,none⟩=some (.int .i64 x.f1):=(blk_cell HX6.out.tail.tail.head 1).trans rfl;have q2:w6.cell? ⟨wr.heap.size,2,none⟩=some (.int .i64 x.f2.f0):=(blk_cell HX6.out.tail.tail.head 2).trans rfl;have q3:w6.cell? ⟨wr.heap.size,3,none⟩=some (.int .i64 x.f2.f1):=(blk_cell HX6.out.tail.tail.head 3).trans rfl;have q4:w6.cell? ⟨wr.heap.size,4,none⟩=some (.slice A4 x.f2.f2.length c4):=(blk_cell HX6.out.tail.tail.head 4).trans rfl;have q5:w6.cell? ⟨wr.heap.size,5,none⟩=some (.int .i64 x.f3.f0):=(blk_cell HX6.out.tail.tail.head 5).trans rfl;have q6:w6.cell? ⟨wr.heap.size,6,none⟩=some (.int .i64 x.f3.f1):=(blk_cell HX6.out.tail.tail.head 6).trans rfl;have q7:w6.cell? ⟨wr.heap.size,7,none⟩=some (.int .i64 x.f3.f2):=(blk_cell HX6.out.tail.tail.head 7).trans rfl;have q8:w6.cell? ⟨wr.heap.size,8,none⟩=some (.slice A8 x.f3.f3.length c8):=(blk_cell HX6.out.tail.tail.head 8).trans rfl;have q9:w6.cell? ⟨wr.heap.size,9,none⟩=some (.slice A9 x.f3.f4.length c9):=(blk_cell HX6.out.tail.tail.head 9).trans rfl;have a0:w6.cell? ⟨w3.heap.size+1,0,none⟩=some (.int .i64 a.2.2.1):=(blk_cell HX6.out.head 0).trans rfl;have a1:w6.cell? ⟨w3.heap.size+1,1,none⟩=some (.int .i64 a.2.2.2.1):=(blk_cell HX6.out.head 1).trans rfl;have a2:w6.cell? ⟨w3.heap.size+1,2,none⟩=some (.int .i64 a.2.2.2.2.1):=(blk_cell HX6.out.head 2).trans rfl;have a3:w6.cell? ⟨w3.heap.size+1,3,none⟩=some (.slice Af a.2.2.2.2.2.1.length cf):=(blk_cell HX6.out.head 3).trans rfl;have a4:w6.cell? ⟨w3.heap.size+1,4,none⟩=some (.slice Am a.2.2.2.2.2.2.length cm):=(blk_cell HX6.out.head 4).trans rfl))
           go_roundg (l.length - i)
           case measure=>have:=HG.out.2;omega
           case rel=>exact ⟨i+1,kq,dn,left,v3c,od,by go_num,⟨by have:=HG.out;omega⟩,⟨by have:=HKq.out;omega,HF.out⟩,HR6⟩
        ·have hid:idleB x=false:=by simpa using hid
         rw [hid] at HID
         have hT:=HTk.out
         unfold takeF at hT
         rw [if_neg (by rw [hid];decide)] at hT
         have HSM:=Aside0.mk hT
         clear hT hid
         cases t with
         |false=>
          have hf:=HF.out
          rw [if_pos rfl] at hf
          clear HF
          have HF:=Aside0.mk hf
          clear hf
          go_wp2_with (first|(go_at_call 39;(with_reducible refine HID.out.mono ?_);rintro e w5 ⟨rfl,hb⟩;have HR5:=Aside0.mk (HR4.out.below hb);have HX5:=Aside0.mk (HX4.out.below hb);have HB5:=Aside0.mk (below_step HB4.out hb);have HN5:=Aside0.mk (Kd.R_below HN4.out hb);have H55:=Aside0.mk (Kd.R_below H54.out hb);have H65:=Aside0.mk (Kd.R_below H64.out hb);clear hb HR4 HX4 HB4 HN4 H54 H64;have q0:w5.cell? ⟨wr.heap.size,0,none⟩=some (.int .i64 x.f0):=(blk_cell HX5.out.tail.tail.head 0).trans rfl;have q1:w5.cell? ⟨wr.heap.size,1,none⟩=some (.int .i64 x.f1):=(blk_cell HX5.out.tail.tail.head 1).trans rfl;have q2:w5.cell? ⟨wr.heap.size,2,none⟩=some (.int .i64 x.f2.f0):=(blk_cell HX5.out.tail.tail.head 2).trans rfl;have q3:w5.cell? ⟨wr.heap.size,3,none⟩=some (.int .i64 x.f2.f1):=(blk_cell HX5.out.tail.tail.head 3).trans rfl;have q4:w5.cell? ⟨wr.heap.size,4,none⟩=some (.slice A4 x.f2.f2.length c4):=(blk_cell HX5.out.tail.tail.head 4).trans rfl;have q5:w5.cell? ⟨wr.heap.size,5,none⟩=some (.int .i64 x.f3.f0):=(blk_cell HX5.out.tail.tail.head 5).trans rfl;have q6:w5.cell? ⟨wr.heap.size,6,none⟩=some (.int .i64 x.f3.f1):=(blk_cell HX5.out.tail.tail.head 6).trans rfl;have q7:w5.cell? ⟨wr.heap.size,7,none⟩=some (.int .i64 x.f3.f2):=(blk_cell HX5.out.tail.tail.head 7).trans rfl;have q8:w5.cell? ⟨wr.heap.size,8,none⟩=some (.slice A8 x.f3.f3.length c8):=(blk_cell HX5.out.tail.tail.head 8).trans rfl;have q9:w5.cell? ⟨wr.heap.size,9,none⟩=some (.slice A9 x.f3.f4.length c9):=(blk_cell HX5.out.tail.tail.head 9).trans rfl;have a0:w5.cell? ⟨w3.heap.size+1,0,none⟩=some (.int .i64 a.2.2.1):=(blk_cell HX5.out.head 0).trans rfl;have a1:w5.cell? ⟨w3.heap.size+1,1,none⟩=some (.int .i64 a.2.2.2.1):=(blk_cell HX5.out.head 1).trans rfl;have a2:w5.cell? ⟨w3.heap.size+1,2,none⟩=some (.int .i64 a.2.2.2.2.1):=(blk_cell HX5.out.head 2).trans rfl;have a3:w5.cell? ⟨w3.heap.size+1,3,none⟩=some (.slice Af a.2.2.2.2.2.1.length cf):=(blk_cell HX5.out.head 3).trans rfl;have a4:w5.cell? ⟨w3.heap.size+1,4,none⟩=some (.slice Am a.2.2.2.2.2.2.length cm):=(blk_cell HX5.out.head 4).trans rfl)|(go_at_call 40;(with_reducible refine (speech_same.calls kq a.2.2.1 a.2.2.2.1 a.2.2.2.2.1 Af cf a.2.2.2.2.2.1 Am cm a.2.2.2.2.2.2 x.f3.f0 x.f3.f1 x.f3.f2 A8 c8 x.f3.f3 A9 c9 x.f3.f4 _ _ (Kd.R_reads' H55.out).2.2 (Kd.R_reads' H55.out).2.1 (Kd.R_reads' H65.out).2.2 (Kd.R_reads' H65.out).2.1 (Kd.C_below H8.out.2 HB5.out) H8.out.1 (Kd.C_below H9.out.2 HB5.out) H9.out.1 HSM.out).mono ?_);rintro e w6 ⟨rfl,hb⟩;have HR6:=Aside0.mk (HR5.out.below hb);have HX6:=Aside0.mk (HX5.out.below hb);have HB6:=Aside0.mk (below_step HB5.out hb);have HN6:=Aside0.mk (Kd.R_below HN5.out hb);have H56:=Aside0.mk (Kd.R_below H55.out hb);have H66:=Aside0.mk (Kd.R_below H65.out hb);clear hb HR5 HX5 HB5 HN5 H55 H65;clear q0 q1 q2 q3 q4 q5 q6 q7 q8 q9 a0 a1 a2 a3 a4))
          go_roundg (l.length - i)
          case measure=>have:=HG.out.2;omega
          case rel=>exact ⟨i+1,kq,dn,left,v3c,od,by go_num,⟨by have:=HG.out;omega⟩,⟨by have:=HKq.out;omega,HF.out⟩,HR6⟩
         |true=>
          have hf:=HF.out
          rw [if_neg (by decide)] at hf
          clear HF
          by_cases hL:od.length < 1000000000000
          ·rw [if_pos hL] at hf
           have HLo:=Aside0.mk hL
           clear hL
           obtain ⟨⟨rb,rdn,rl,ro⟩,hfi,hf⟩:=Option.bind_eq_some_iff.mp hf
           obtain ⟨y,hy⟩: ∃y:List Int,y=od++[(i:Int)]:=⟨_,rfl⟩
           rw [← hy] at hfi
           have HY:=Aside0.mk hy
           have HFI:=Aside0.mk hfi
           clear hy hfi
           cases rb with
           |true=>
            rw [if_pos rfl] at hf
            obtain rfl:=Option.some.inj hf
            clear hf
            go_wp2_with (first|(go_at_call 39;(with_reducible refine HID.out.mono ?_);rintro e w5 ⟨rfl,hb⟩;have HR5:=Aside0.mk (HR4.out.below hb);have HX5:=Aside0.mk (HX4.out.below hb);have HB5:=Aside0.mk (below_step HB4.out hb);have HN5:=Aside0.mk (Kd.R_below HN4.out hb);have H55:=Aside0.mk (Kd.R_below H54.out hb);have H65:=Aside0.mk (Kd.R_below H64.out hb);clear hb HR4 HX4 HB4 HN4 H54 H64;have q0:w5.cell? ⟨wr.heap.size,0,none⟩=some (.int .i64 x.f0):=(blk_cell HX5.out.tail.tail.head 0).trans rfl;have q1:w5.cell? ⟨wr.heap.size,1,none⟩=some (.int .i64 x.f1):=(blk_cell HX5.out.tail.tail.head 1).trans rfl;have q2:w5.cell? ⟨wr.heap.size,2,none⟩=some (.int .i64 x.f2.f0):=(blk_cell HX5.out.tail.tail.head 2).trans rfl;have q3:w5.cell? ⟨wr.heap.size,3,none⟩=some (.int .i64 x.f2.f1):=(blk_cell HX5.out.tail.tail.head 3).trans rfl;have q4:w5.cell? ⟨wr.heap.size,4,none⟩=some (.slice A4 x.f2.f2.length c4):=(blk_cell HX5.out.tail.tail.head 4).trans rfl;have q5:w5.cell? ⟨wr.heap.size,5,none⟩=some (.int .i64 x.f3.f0):=(blk_cell HX5.out.tail.tail.head 5).trans rfl;have q6:w5.cell? ⟨wr.heap.size,6,none⟩=some (.int .i64 x.f3.f1):=(blk_cell HX5.out.tail.tail.head 6).trans rfl;have q7:w5.cell? ⟨wr.heap.size,7,none⟩=some (.int .i64 x.f3.f2):=(blk_cell HX5.out.tail.tail.head 7).trans rfl;have q8:w5.cell? ⟨wr.heap.size,8,none⟩=some (.slice A8 x.f3.f3.length c8):=(blk_cell HX5.out.tail.tail.head 8).trans rfl;have q9:w5.cell? ⟨wr.heap.size,9,none⟩=some (.slice A9 x.f3.f4.length c9):=(blk_cell HX5.out.tail.tail.head 9).trans rfl;have a0:w5.cell? ⟨w3.heap.size+1,0,none⟩=some (.int .i64 a.2.2.1):=(blk_cell HX5.out.head 0).trans rfl;have a1:w5.cell? ⟨w3.heap.size+1,1,none⟩=some (.int .i64 a.2.2.2.1):=(blk_cell HX5.out.head 1).trans rfl;have a2:w5.cell? ⟨w3.heap.size+1,2,none⟩=some (.int .i64 a.2.2.2.2.1):=(blk_cell HX5.out.head 2).trans rfl;have a3:w5.cell? ⟨w3.heap.size+1,3,none⟩=some (.slice Af a.2.2.2.2.2.1.length cf):=(blk_cell HX5.out.head 3).trans rfl;have a4:w5.cell? ⟨w3.heap.size+1,4,none⟩=some (.slice Am a.2.2.2.2.2.2.length cm):=(blk_cell HX5.out.head 4).trans rfl)|(go_at_call 40;(with_reducible refine (speech_same.calls kq a.2.2.1 a.2.2.2.1 a.2.2.2.2.1 Af cf a.2.2.2.2.2.1 Am cm a.2.2.2.2.2.2 x.f3.f0 x.f3.f1 x.f3.f2 A8 c8 x.f3.f3 A9 c9 x.f3.f4 _ _ (Kd.R_reads' H55.out).2.2 (Kd.R_reads' H55.out).2.1 (Kd.R_reads' H65.out).2.2 (Kd.R_reads' H65.out).2.1 (Kd.C_below H8.out.2 HB5.out) H8.out.1 (Kd.C_below H9.out.2 HB5.out) H9.out.1 HSM.out).mono ?_);rintro e w6 ⟨rfl,hb⟩;have HR6:=Aside0.mk (HR5.out.below hb);have HX6:=Aside0.mk (HX5.out.below hb);have HB6:=Aside0.mk (below_step HB5.out hb);have HN6:=Aside0.mk (Kd.R_below HN5.out hb);have H56:=Aside0.mk (Kd.R_below H55.out hb);have H66:=Aside0.mk (Kd.R_below H65.out hb);clear hb HR5 HX5 HB5 HN5 H55 H65;clear q0 q1 q2 q3 q4 q5 q6 q7 q8 q9 a0 a1 a2 a3 a4;obtain ⟨A3,c3,rfl⟩:=Kd.R_slice HR6.out.1.2.2.2.2.2.2.1;obtain ⟨g0,g1,g2,g3⟩:=HR6.out.1.cells;have f3:=blk_frozen HR6.out.1.1 3;obtain ⟨d0,d1⟩:=Kd.R_celln (enc:=Value.bool) (h1:=fun _=>rfl) false HR6.out.1.2.2.2.2.2.1 (i:Int) (by omega) (by omega);rw [Int.toNat_natCast] at d0 d1;have hne:g≠gd:=fun e=>Kd.R_ne HR6.out.1.2.2.2.2.2.1 HR6.out.1.1 (by decide) (by rw [e];rfl);have hne2:gd≠g:=fun e=>hne e.symm)|((with_reducible refine gate_dst (N:=93) rfl ?_);have hK7:Kept w6 (w6.setCell ⟨gd,i,none⟩ (.bool true)) (FS g (.slice (some ⟨gd,0,none⟩) l.length c1) (.slice A3 od.length c3)):=(Kept.refl w6 _).setCell (.inl (.inr (.inl rfl))) _;have HR7:=Aside0.mk (HR6.out.go (HR6.out.1.setDone i true HGD.out) hK7 (fun k hk=> .inl hk.symm));have HX7:=Aside0.mk (HX6.out.kept HR6.out.1 hK7);have HN7:=Aside0.mk (HR6.out.1.keep_row HN6.out (by decide) hK7);clear hK7 HR6 HX6 HN6 HB6 g0 g1 g2 g3 f3 d0 d1;refine Kd.R_lit (Kd.int .i64) (w0:=wB) wB.heap.size 3 ?hg (N:=93) ?hd (xs:=([(i:Int)]:List Int)) (inner:=[.int .i64 i]) (ok:=fun _=>True) (okp:=fun _=>True) ?hr ?hp (fun _ hk=>hk) trivial HR7.out.1.2.2.2.1 HR7.out.1.2.2.2.1.size (by simp) ?_;(case hd=>rfl);(case hg=>rfl);(case hr=>first|(go_simp;done)|(go_simp;rfl));(case hp=>exact (Reps.one (show Kd.M (Kd.int .i64) _ _ _ (i:Int) [.int .i64 i] from rfl) (Reps.none _ _)));intro v9 w8 g9 hb hg_ hnew_;have hb8:=below_grown hg_;have HR8:=Aside0.mk (HR7.out.below hb8);have HX8:=Aside0.mk (HX7.out.below hb8);have HN8:=Aside0.mk (Kd.R_below HN7.out hb8);have HL8:=Aside0.mk g9;clear g9 hb hg_ hnew_ hb8 HR7 HX7 HN7;obtain ⟨A9_,c9_,rfl⟩:=Kd.R_slice HL8.out)|((with_reducible refine gate_builtin (b:= .append) (xs:=#[.tmp 91, .tmp 93]) rfl ?_);at_builtin;refine Kd.R_append_rows (Kd.int .i64) (w0:=wB) wB.heap.size rfl (.tmp 91) (.tmp 93) 23 3 (.int .i64 0) 8 rfl Tryd.underlying23 info3 rfl (by decide) (by omega) (.slice A3 od.length c3) od [(i:Int)] _ _ _ (fun _=>True) (fun _=>False) rfl rfl HR8.out.1.2.2.2.2.2.2.1 ?aR (fun _ _ h=>h) (fun _ h=>h.elim) (fun _ _=>trivial) HR8.out.1.2.2.2.1 HR8.out.1.2.2.2.1.size ?aL ?_;(case aR=>exact (Kd.R_reads' HL8.out).2.2);(case aL=>have:=HLo.out;show (od.length+1)*8≤_;omega);intro v3n w9 ho hb hg hat;rw [← HY.out] at ho;obtain ⟨An3,cn3,rfl⟩:=Kd.R_slice ho;have gg:=blk_grown HR8.out.1.1 hg (Kd.R_ne HR8.out.1.2.2.2.2.2.2.1 HR8.out.1.1 (by decide));have hK:Kept w8 (w9.setCell ⟨g,3,none⟩ (.slice An3 y.length cn3)) (FS g (.slice (some ⟨gd,0,none⟩) l.length c1) (.slice A3 od.length c3)):=(Kept.of_grown hg (Kept.refl w8 _) (fun k h=> .inl (.inr (.inr h.symm)))).setCell (.inl (.inl rfl)) _;have HR10:=Aside0.mk (HR8.out.go (Fnd.setOrd HR8.out.1 hg hb ho) hK (fun k hk=>hat.elim (fun e=> .inl (by rw [← e,hk])) (fun ⟨b,e,hle⟩=> .inr (by rw [e] at hk;injection hk with hk;omega))));have HX10:=Aside0.mk (HX8.out.kept HR8.out.1 hK);have HN10:=Aside0.mk (HR8.out.1.keep_row HN8.out (by decide) hK);have e3:w9.cell? ⟨g,3,none⟩=some (.slice A3 od.length c3):=(blk_cell gg 3).trans rfl;have ef3:=blk_frozen gg 3;have e0:(w9.setCell ⟨g,3,none⟩ (.slice An3 y.length cn3)).cell? ⟨w3.heap.size,0,none⟩=some (.int .i64 a.1):=(blk_cell HX10.out.tail.head 0).trans rfl;have e1:(w9.setCell ⟨g,3,none⟩ (.slice An3 y.length cn3)).cell? ⟨w3.heap.size,1,none⟩=some (.slice An a.2.1.length cn):=(blk_cell HX10.out.tail.head 1).trans rfl;have en:w3.heap.size≠g:=fun e=>(by have h_:=HX10.out.tail.head;rw [e,HR10.out.1.1] at h_;simp at h_);have en2:g≠w3.heap.size:=fun e=>en e.symm;have HRF:=Aside0.mk HR10.out.1;clear ho hb hg hat gg hK HR8 HX8 HN8 HL8)|(go_at_call 37;(with_reducible refine (HIH.out kq (by have:=HKq.out;omega) wB g _ c0 l _ c1 (dn.set i true) left _ y a.1 An cn a.2.1 _ _ HFI.out HRF.out HN10.out).mono ?_);rintro e w12 ⟨v3f,rfl,hF,hK,hv⟩;have HR12:=Aside0.mk (HR10.out.go hF hK hv);clear hF hK hv HR10 HX10 HN10 HRF))
            (try rw [Exit.noGoto_ret])
            go_ret
            exact ⟨v3f,rfl,HR12.out.1,HR12.out.2.2.2.1,HR12.out.2.2.2.2⟩
           |false=>
            replace hf:(if 1≤ro.length then find.l0 kq l (rdn.set i false) rl (ro.take (ro.length - 1)) fl tr (i+1) else none)=some r:=hf
            by_cases h1:1≤ro.length
            ·rw [if_pos h1] at hf
             have HF:=Aside0.mk hf
             have H1:=Aside0.mk h1
             clear hf h1
             go_wp2_with (first|(go_at_call 39;(with_reducible refine HID.out.mono ?_);rintro e w5 ⟨rfl,hb⟩;have HR5:=Aside0.mk (HR4.out.below hb);have HX5:=Aside0.mk (HX4.out.below hb);have HB5:=Aside0.mk (below_step HB4.out hb);have HN5:=Aside0.mk (Kd.R_below HN4.out hb);have H55:=Aside0.mk (Kd.R_below H54.out hb);have H65:=Aside0.mk (Kd.R_below H64.out hb);clear hb HR4 HX4 HB4 HN4 H54 H64;have q0:w5.cell? ⟨wr.heap.size,0,none⟩=some (.int .i64 x.f0):=(blk_cell HX5.out.tail.tail.head 0).trans rfl;have q1:w5.cell? ⟨wr.heap.size,1,none⟩=some (.int .i64 x.f1):=(blk_cell HX5.out.tail.tail.head 1).trans rfl;have q2:w5.cell? ⟨wr.heap.size,2,none⟩=some (.int .i64 x.f2.f0):=(blk_cell HX5.out.tail.tail.head 2).trans rfl;have q3:w5.cell? ⟨wr.heap.size,3,none⟩=some (.int .i64 x.f2.f1):=(blk_cell HX5.out.tail.tail.head 3).trans rfl;have q4:w5.cell? ⟨wr.heap.size,4,none⟩=some (.slice A4 x.f2.f2.length c4):=(blk_cell HX5.out.tail.tail.head 4).trans rfl;have q5:w5.cell? ⟨wr.heap.size,5,none⟩=some (.int .i64 x.f3.f0):=(blk_cell HX5.out.tail.tail.head 5).trans rfl;have q6:w5.cell? ⟨wr.heap.size,6,none⟩=some (.int .i64 x.f3.f1):=(blk_cell HX5.out.tail.tail.head 6).trans rfl;have q7:w5.cell? ⟨wr.heap.size,7,none⟩=some (.int .i64 x.f3.f2):=(blk_cell HX5.out.tail.tail.head 7).trans rfl;have q8:w5.cell? ⟨wr.heap.size,8,none⟩=some (.slice A8 x.f3.f3.length c8):=(blk_cell HX5.out.tail.tail.head 8).trans rfl;have q9:w5.cell? ⟨wr.heap.size,9,none⟩=some (.slice A9 x.f3.f4.length c9):=(blk_cell HX5.out.tail.tail.head 9).trans rfl;have a0:w5.cell? ⟨w3.heap.size+1,0,none⟩=some (.int .i64 a.2.2.1):=(blk_cell HX5.out.head 0).trans rfl;have a1:w5.cell? ⟨w3.heap.size+1,1,none⟩=some (.int .i64 a.2.2.2.1):=(blk_cell HX5.out.head 1).trans rfl;have a2:w5.cell? ⟨w3.heap.size+1,2,none⟩=some (.int .i64 a.2.2.2.2.1):=(blk_cell HX5.out.head 2).trans rfl;have a3:w5.cell? ⟨w3.heap.size+1,3,none⟩=some (.slice Af a.2.2.2.2.2.1.length cf):=(blk_cell HX5.out.head 3).trans rfl;have a4:w5.cell? ⟨w3.heap.size+1,4,none⟩=some (.slice Am a.2.2.2.2.2.2.length cm):=(blk_cell HX5.out.head 4).trans rfl)|(go_at_call 40;(with_reducible refine (speech_same.calls kq a.2.2.1 a.2.2.2.1 a.2.2.2.2.1 Af cf a.2.2.2.2.2.1 Am cm a.2.2.2.2.2.2 x.f3.f0 x.f3.f1 x.f3.f2 A8 c8 x.f3.f3 A9 c9 x.f3.f4 _ _ (Kd.R_reads' H55.out).2.2 (Kd.R_reads' H55.out).2.1 (Kd.R_reads' H65.out).2.2 (Kd.R_reads' H65.out).2.1 (Kd.C_below H8.out.2 HB5.out) H8.out.1 (Kd.C_below H9.out.2 HB5.out) H9.out.1 HSM.out).mono ?_);rintro e w6 ⟨rfl,hb⟩;have HR6:=Aside0.mk (HR5.out.below hb);have HX6:=Aside0.mk (HX5.out.below hb);have HB6:=Aside0.mk (below_step HB5.out hb);have HN6:=Aside0.mk (Kd.R_below HN5.out hb);have H56:=Aside0.mk (Kd.R_below H55.out hb);have H66:=Aside0.mk (Kd.R_below H65.out hb);clear hb HR5 HX5 HB5 HN5 H55 H65;clear q0 q1 q2 q3 q4 q5 q6 q7 q8 q9 a0 a1 a2 a3 a4;obtain ⟨A3,c3,rfl⟩:=Kd.R_slice HR6.out.1.2.2.2.2.2.2.1;obtain ⟨g0,g1,g2,g3⟩:=HR6.out.1.cells;have f3:=blk_frozen HR6.out.1.1 3;obtain ⟨d0,d1⟩:=Kd.R_celln (enc:=Value.bool) (h1:=fun _=>rfl) false HR6.out.1.2.2.2.2.2.1 (i:Int) (by omega) (by omega);rw [Int.toNat_natCast] at d0 d1;have hne:g≠gd:=fun e=>Kd.R_ne HR6.out.1.2.2.2.2.2.1 HR6.out.1.1 (by decide) (by rw [e];rfl);have hne2:gd≠g:=fun e=>hne e.symm)|((with_reducible refine gate_dst (N:=93) rfl ?_);have hK7:Kept w6 (w6.setCell ⟨gd,i,none⟩ (.bool true)) (FS g (.slice (some ⟨gd,0,none⟩) l.length c1) (.slice A3 od.length c3)):=(Kept.refl w6 _).setCell (.inl (.inr (.inl rfl))) _;have HR7:=Aside0.mk (HR6.out.go (HR6.out.1.setDone i true HGD.out) hK7 (fun k hk=> .inl hk.symm));have HX7:=Aside0.mk (HX6.out.kept HR6.out.1 hK7);have HN7:=Aside0.mk (HR6.out.1.keep_row HN6.out (by decide) hK7);clear hK7 HR6 HX6 HN6 HB6 g0 g1 g2 g3 f3 d0 d1;refine Kd.R_lit (Kd.int .i64) (w0:=wB) wB.heap.size 3 ?hg (N:=93) ?hd (xs:=([(i:Int)]:List Int)) (inner:=[.int .i64 i]) (ok:=fun _=>True) (okp:=fun _=>True) ?hr ?hp (fun _ hk=>hk) trivial HR7.out.1.2.2.2.1 HR7.out.1.2.2.2.1.size (by simp) ?_;(case hd=>rfl);(case hg=>rfl);(case hr=>first|(go_simp;done)|(go_simp;rfl));(case hp=>exact (Reps.one (show Kd.M (Kd.int .i64) _ _ _ (i:Int) [.int .i64 i] from rfl) (Reps.none _ _)));intro v9 w8 g9 hb hg_ hnew_;have hb8:=below_grown hg_;have HR8:=Aside0.mk (HR7.out.below hb8);have HX8:=Aside0.mk (HX7.out.below hb8);have HN8:=Aside0.mk (Kd.R_below HN7.out hb8);have HL8:=Aside0.mk g9;clear g9 hb hg_ hnew_ hb8 HR7 HX7 HN7;obtain ⟨A9_,c9_,rfl⟩:=Kd.R_slice HL8.out)|((with_reducible refine gate_builtin (b:= .append) (xs:=#[.tmp 91, .tmp 93]) rfl ?_);at_builtin;refine Kd.R_append_rows (Kd.int .i64) (w0:=wB) wB.heap.size rfl (.tmp 91) (.tmp 93) 23 3 (.int .i64 0) 8 rfl Tryd.underlying23 info3 rfl (by decide) (by omega) (.slice A3 od.length c3) od [(i:Int)] _ _ _ (fun _=>True) (fun _=>False) rfl rfl HR8.out.1.2.2.2.2.2.2.1 ?aR (fun _ _ h=>h) (fun _ h=>h.elim) (fun _ _=>trivial) HR8.out.1.2.2.2.1 HR8.out.1.2.2.2.1.size ?aL ?_;(case aR=>exact (Kd.R_reads' HL8.out).2.2);(case aL=>have:=HLo.out;show (od.length+1)*8≤_;omega);intro v3n w9 ho hb hg hat;rw [← HY.out] at ho;obtain ⟨An3,cn3,rfl⟩:=Kd.R_slice ho;have gg:=blk_grown HR8.out.1.1 hg (Kd.R_ne HR8.out.1.2.2.2.2.2.2.1 HR8.out.1.1 (by decide));have hK:Kept w8 (w9.setCell ⟨g,3,none⟩ (.slice An3 y.length cn3)) (FS g (.slice (some ⟨gd,0,none⟩) l.length c1) (.slice A3 od.length c3)):=(Kept.of_grown hg (Kept.refl w8 _) (fun k h=> .inl (.inr (.inr h.symm)))).setCell (.inl (.inl rfl)) _;have HR10:=Aside0.mk (HR8.out.go (Fnd.setOrd HR8.out.1 hg hb ho) hK (fun k hk=>hat.elim (fun e=> .inl (by rw [← e,hk])) (fun ⟨b,e,hle⟩=> .inr (by rw [e] at hk;injection hk with hk;omega))));have HX10:=Aside0.mk (HX8.out.kept HR8.out.1 hK);have HN10:=Aside0.mk (HR8.out.1.keep_row HN8.out (by decide) hK);have e3:w9.cell? ⟨g,3,none⟩=some (.slice A3 od.length c3):=(blk_cell gg 3).trans rfl;have ef3:=blk_frozen gg 3;have e0:(w9.setCell ⟨g,3,none⟩ (.slice An3 y.length cn3)).cell? ⟨w3.heap.size,0,none⟩=some (.int .i64 a.1):=(blk_cell HX10.out.tail.head 0).trans rfl;have e1:(w9.setCell ⟨g,3,none⟩ (.slice An3 y.length cn3)).cell? ⟨w3.heap.size,1,none⟩=some (.slice An a.2.1.length cn):=(blk_cell HX10.out.tail.head 1).trans rfl;have en:w3.heap.size≠g:=fun e=>(by have h_:=HX10.out.tail.head;rw [e,HR10.out.1.1] at h_;simp at h_);have en2:g≠w3.heap.size:=fun e=>en e.symm;have HRF:=Aside0.mk HR10.out.1;clear ho hb hg hat gg hK HR8 HX8 HN8 HL8)|(go_at_call 37;(with_reducible refine (HIH.out kq (by have:=HKq.out;omega) wB g _ c0 l _ c1 (dn.set i true) left _ y a.1 An cn a.2.1 _ _ HFI.out HRF.out HN10.out).mono ?_);rintro e w12 ⟨v3f,rfl,hF,hK,hv⟩;have HR12:=Aside0.mk (HR10.out.go hF hK hv);obtain ⟨A5,c5,rfl⟩:=Kd.R_slice HR12.out.1.2.2.2.2.2.2.1;obtain ⟨g0,g1,g2,g3⟩:=HR12.out.1.cells;have f3:=blk_frozen HR12.out.1.1 3;clear hF hK hv HR10 HX10 HN10 HRF))
             have hro:=Kd.C_max (Kd.R_reads' HR12.out.1.2.2.2.2.2.2.1).2.2
             have hrc:=(Kd.R_reads' HR12.out.1.2.2.2.2.2.2.1).2.1
             have ew:wrap64 ((ro.length:Int) - 1)=((ro.length - 1:Nat):Int):=by have:=H1.out;unfold wrap64;omega
             have ew0:=eq_true (show (0:Int)≤wrap64 ((ro.length:Int) - 1) by rw [ew];omega)
             have ewc:=eq_true (show wrap64 ((ro.length:Int) - 1)≤(c5:Int) by rw [ew];omega)
             have ewn:(wrap64 ((ro.length:Int) - 1)).toNat=ro.length - 1:=by rw [ew];omega
             have ev0:=eq_true (show (0:Int)≤IntKind.i64.wrap ((ro.length:Int) - 1) by rw [IntKind.wrap_i64];have h_:=ew0;unfold wrap64 at h_;exact of_eq_true h_)
             have evc:=eq_true (show IntKind.i64.wrap ((ro.length:Int) - 1)≤(c5:Int) by rw [IntKind.wrap_i64];have h_:=ewc;unfold wrap64 at h_;exact of_eq_true h_)
             have evn:(IntKind.i64.wrap ((ro.length:Int) - 1)).toNat=ro.length - 1:=by rw [IntKind.wrap_i64];have h_:=ewn;unfold wrap64 at h_;exact h_
             clear ew
             go_region
             all_goals
              have HRT:=Kd.R_take (m:=ro.length - 1) HR12.out.1.2.2.2.2.2.2.1 (by omega)
              obtain ⟨y,hy⟩: ∃y:List Int,y=ro.take (ro.length - 1):=⟨_,rfl⟩
              have hyl:ro.length - 1=y.length:=by rw [hy];simp
              rw [← hy] at HRT
              rw [hyl] at HRT ⊢
              have HF:=Aside0.mk (hy ▸ HF.out)
              have HR13:=Aside0.mk ((HR12.out.go (Fnd.setOrd HR12.out.1 (grown_refl _ _) HR12.out.1.2.2.2.1 HRT) ((Kept.refl w12 _).setCell (.inl (.inl rfl)) _) (fun k hk=> .inl (by cases A5<;>exact hk.symm))).below (below_drew (Below.refl _ _)))
              clear hy hyl HRT HR12 g0 g1 g2 g3 f3 ew0 ewc ewn ev0 evc evn hro hrc
              generalize (w12.setCell ⟨g,3,none⟩ (.slice A5 y.length c5)).drew=w13 at HR13 ⊢
              obtain ⟨g0,g1,g2,g3⟩:=HR13.out.1.cells
              obtain ⟨d0,d1⟩:=Kd.R_celln (enc:=Value.bool) (h1:=fun _=>rfl) false HR13.out.1.2.2.2.2.2.1 (i:Int) (by omega) (by omega)
              rw [Int.toNat_natCast] at d0 d1
              have HR14:=Aside0.mk (HR13.out.go (HR13.out.1.setDone i false HGD.out) ((Kept.refl w13 _).setCell (.inl (.inr (.inl rfl))) _) (fun k hk=> .inl hk.symm))
              go_wp2_with fail
              go_roundg (l.length - i)
              case measure=>have:=HG.out.2;omega
              case rel=>exact ⟨i+1,kq,(rdn.set i false),rl,_,y,by go_num,⟨by have:=HG.out;omega⟩,⟨by have:=HKq.out;omega,HF.out⟩,HR14⟩
            ·rw [if_neg h1] at hf
             exact absurd hf (by simp)
          ·rw [if_neg hL] at hf
           exact absurd hf (by simp)
     ·rw [if_neg hi] at hf
      obtain rfl:=Option.some.inj hf
      have ltb:decide ((i:Int) < (l.length:Int))=false:=decide_eq_false (by omega)
      have ltc:decide (i < l.length)=false:=decide_eq_false hi
      go_wp2_with fail
      go_ret
      exact ⟨v3c,rfl,HR.out.1,HR.out.2.2.2.1,HR.out.2.2.2.2⟩
end Go.Proofs.YthejnffhfmdpnaaDoor.Q

end
