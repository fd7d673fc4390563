/- Texts of this claim, in one file. -/
import Derived.Deep.LoopGhost
import Derived.Lib.SliceRun
import Derived.Outline
import Derived.Test.YthejnffhfmdpnaaDoorMG
section
namespace Go.Proofs.YthejnffhfmdpnaaDoor.Q
open Go.RowKit Go.Proofs.YthejnffhfmdpnaaDoorW.PrintWords Go.Proofs.YthejnffhfmdpnaaDoorW.PrintLast Go.Proofs.YthejnffhfmdpnaaDoorW.PrintMore
set_option linter.unusedVariables false
set_option linter.unusedSimpArgs false
def waysB (l:List S45) (dn:List Bool) (i k:Nat):Bool:=rdOf false dn (k:Int) || ((k:Int) == (i:Int) || (idleB (rd_T45 l (k:Int)) || !decide ((rd_T45 l (k:Int)).f1 < (rd_T45 l (i:Int)).f0)))
def freeB (l:List S45) (dn:List Bool) (i:Nat):Bool:=(List.range l.length).all (waysB l dn i)
theorem freeB_no {l:List S45} {dn:List Bool} {i k:Nat} (hk:k < l.length) (h:waysB l dn i k=false):freeB l dn i=false:=by
 unfold freeB
 rw [← Bool.not_eq_true,List.all_eq_true]
 intro hall
 have:=hall k (List.mem_range.mpr hk)
 rw [h] at this
 exact absurd this (by decide)
theorem freeB_yes {l:List S45} {dn:List Bool} {i:Nat} (h: ∀k,k < l.length→waysB l dn i k=true):freeB l dn i=true:=by
 unfold freeB
 rw [List.all_eq_true]
 exact fun k hk=>h k (List.mem_range.mp hk)
set_option maxHeartbeats 8000000 in
set_option maxRecDepth 100000 in
theorem free_calls (g:Nat) (A0:Option Addr) (c0:Nat) (l:List S45) (A1:Option Addr) (c1:Nat) (dn:List Bool) (left:Int) (v3:Value) (w:World) (hF:Fst g A0 c0 l A1 c1 dn left v3 w) (hd:dn.length=l.length) (i:Nat) (hi:i < l.length):
  Calls Tryd.prog 38 #[.pointer (some ⟨g,0,none⟩), .int .i64 i] w fun e w'=>e= .returned (.bool (freeB l dn i))∧Below w.heap.size w w':=by
 have HF0:=Aside0.mk hF
 have HD:=Aside0.mk hd
 have HI:=Aside0.mk hi
 have hlm:=hF.2.1.2.1
 obtain ⟨z0,z1,z2,z3⟩:=hF.cells
 clear hF hd hi
 go_enter Tryd.func38,Tryd.ntmps38
 go_wp2
 clear z0 z1 z2 z3
 go_loopg [12] (l.length+1) (fun gq v12 wr=> ∃k:Nat,v12= .int .i64 k∧Aside0 (k≤l.length∧gq+k=l.length+1)∧Aside0 (∀j,j < k→waysB l dn i j=true)∧Aside0 (Fst g A0 c0 l A1 c1 dn left v3 wr∧Below w.heap.size w wr))
 case atStart=>exact ⟨0,rfl,⟨by omega⟩,⟨fun j hj=>absurd hj (Nat.not_lt_zero _)⟩,⟨HF0.out,Below.refl _ _⟩⟩
 case round=>
  clear HF0
  obtain ⟨k,rfl,HG,HA,HS⟩:=hrel
  by_cases hk:k < l.length
  ·have ltb:decide ((k:Int) < (l.length:Int))=true:=decide_eq_true (by omega)
   have ltc:decide (k < l.length)=true:=decide_eq_true hk
   have hdm:=HD.out
   have hii:=HI.out
   obtain ⟨ad1,ead1,y0⟩:=Kd.at_bool HS.out.1.2.2.2.1 (k:Int) (by omega) (by omega)
   cases ead1
   rw [Int.toNat_natCast] at y0
   obtain ⟨ad0,A4,c4,A8,c8,A9,c9,ead0,x0,x1,x2,x3,x4,x5,x6,x7,x8,x9, -⟩:=at_T45 HS.out.1.2.1 (k:Int) (by omega) (by omega)
   cases ead0
   obtain ⟨ad0',A4',c4',A8',c8',A9',c9',ead0,u0, -⟩:=at_T45 HS.out.1.2.1 (i:Int) (by omega) (by omega)
   cases ead0
   rw [Int.toNat_natCast] at x0 x1 x2 x3 x4 x5 x6 x7 x8 x9 u0
   have p200:=eq_true (show (0:Int)≤(k:Int) by omega)
   have q200:=eq_true (show (k:Int) < (l.length:Int) by omega)
   have q201:=eq_true (show (k:Int) < (dn.length:Int) by omega)
   have p202:=eq_true (show (0:Int)≤(i:Int) by omega)
   have q202:=eq_true (show (i:Int) < (l.length:Int) by omega)
   clear hdm hii
   have HWB:=Aside0.mk (show waysB l dn i k=(rdOf false dn (k:Int) || ((k:Int) == (i:Int) || (idleB (rd_T45 l (k:Int)) || !decide ((rd_T45 l (k:Int)).f1 < (rd_T45 l (i:Int)).f0)))) from rfl)
   obtain ⟨x,hx⟩: ∃x,x=rd_T45 l (k:Int):=⟨_,rfl⟩
   obtain ⟨y,hy⟩: ∃y,y=rd_T45 l (i:Int):=⟨_,rfl⟩
   rw [← hx] at x0 x1 x2 x3 x4 x5 x6 x7 x8 x9
   rw [← hy] at u0
   rw [← hx, ← hy] at HWB
   have HX:=Aside0.mk hx.symm
   clear hx hy
   have HF:=Aside0.mk (HS.out.1.below (below_alloc (Below.refl _ _) (.cells #[.int .i64 x.f0, .int .i64 x.f1, .int .i64 x.f2.f0, .int .i64 x.f2.f1, .slice A4 x.f2.f2.length c4, .int .i64 x.f3.f0, .int .i64 x.f3.f1, .int .i64 x.f3.f2, .slice A8 x.f3.f3.length c8, .slice A9 x.f3.f4.length c9] 45)))
   have HB:=Aside0.mk (below_alloc HS.out.2 (.cells #[.int .i64 x.f0, .int .i64 x.f1, .int .i64 x.f2.f0, .int .i64 x.f2.f1, .slice A4 x.f2.f2.length c4, .int .i64 x.f3.f0, .int .i64 x.f3.f1, .int .i64 x.f3.f2, .slice A8 x.f3.f3.length c8, .slice A9 x.f3.f4.length c9] 45))
   have HK:=Aside0.mk (blk_new wr (.cells #[.int .i64 x.f0, .int .i64 x.f1, .int .i64 x.f2.f0, .int .i64 x.f2.f1, .slice A4 x.f2.f2.length c4, .int .i64 x.f3.f0, .int .i64 x.f3.f1, .int .i64 x.f3.f2, .slice A8 x.f3.f3.length c8, .slice A9 x.f3.f4.length c9] 45))
   have s2':=(World.cell?_alloc_lt wr (Obj.cells #[.int .i64 x.f0, .int .i64 x.f1, .int .i64 x.f2.f0, .int .i64 x.f2.f1, .slice A4 x.f2.f2.length c4, .int .i64 x.f3.f0, .int .i64 x.f3.f1, .int .i64 x.f3.f2, .slice A8 x.f3.f3.length c8, .slice A9 x.f3.f4.length c9] 45) _ (World.block_lt_of_cell? wr _ y0)).trans y0
   have s4':=(World.cell?_alloc_lt wr (Obj.cells #[.int .i64 x.f0, .int .i64 x.f1, .int .i64 x.f2.f0, .int .i64 x.f2.f1, .slice A4 x.f2.f2.length c4, .int .i64 x.f3.f0, .int .i64 x.f3.f1, .int .i64 x.f3.f2, .slice A8 x.f3.f3.length c8, .slice A9 x.f3.f4.length c9] 45) _ (World.block_lt_of_cell? wr _ u0)).trans u0
   have HS2:=Aside0.mk s2'
   have HS4:=Aside0.mk s4'
   clear s2' s4' y0 u0
   go_wp2_with fail
   clear x0 x1 x2 x3 x4 x5 x6 x7 x8 x9
   generalize wr.alloc (.cells #[.int .i64 x.f0, .int .i64 x.f1, .int .i64 x.f2.f0, .int .i64 x.f2.f1, .slice A4 x.f2.f2.length c4, .int .i64 x.f3.f0, .int .i64 x.f3.f1, .int .i64 x.f3.f2, .slice A8 x.f3.f3.length c8, .slice A9 x.f3.f4.length c9] 45)=W at HF HB HK HS2 HS4 ⊢
   have s0:=HF.out.cells.1
   have s1:=HF.out.cells.2.1
   have s2:=HS2.out
   have s3:W.cell? ⟨wr.heap.size,1,none⟩=some (.int .i64 x.f1):=(blk_cell HK.out 1).trans rfl
   have s4:=HS4.out
   clear HS2 HS4 HK
   by_cases h1:rdOf false dn (k:Int)=true
   ·rw [h1] at s2 HWB
    clear h1
    go_quiet (fail)
    go_wp2
    go_roundg (l.length - k)
    case measure=>have:=HG.out.2;omega
    case rel=>exact ⟨k+1,by go_num,⟨by have:=HG.out;omega⟩,⟨fun j hj=>by
     by_cases hq:j=k
     ·subst hq;exact HWB.out
     ·exact HA.out j (by omega)⟩,⟨HF.out.below (by repeat (first|exact Below.refl _ _|apply pw_below_drewN)),by repeat (first|exact HB.out|apply pw_below_drewN)⟩⟩
   ·have h1:rdOf false dn (k:Int)=false:=by simpa using h1
    rw [h1] at s2 HWB
    clear h1
    by_cases h2:(k:Int)=(i:Int)
    ·have h2b:((k:Int) == (i:Int))=true:=beq_iff_eq.mpr h2
     have h2c:((k:Int) != (i:Int))=false:=bne_eq_false_iff_eq.mpr h2
     rw [h2b] at HWB
     have h2d:(k == i)=true:=beq_iff_eq.mpr (by omega)
     have h2e:(k != i)=false:=bne_eq_false_iff_eq.mpr (by omega)
     clear h2
     go_quiet (fail)
     go_wp2
     go_roundg (l.length - k)
     case measure=>have:=HG.out.2;omega
     case rel=>exact ⟨k+1,by go_num,⟨by have:=HG.out;omega⟩,⟨fun j hj=>by
      by_cases hq:j=k
      ·subst hq;exact HWB.out
      ·exact HA.out j (by omega)⟩,⟨HF.out.below (by repeat (first|exact Below.refl _ _|apply pw_below_drewN)),by repeat (first|exact HB.out|apply pw_below_drewN)⟩⟩
    ·have h2b:((k:Int) == (i:Int))=false:=beq_eq_false_iff_ne.mpr h2
     have h2c:((k:Int) != (i:Int))=true:=bne_iff_ne.mpr h2
     rw [h2b] at HWB
     have h2d:(k == i)=false:=beq_eq_false_iff_ne.mpr (by omega)
     have h2e:(k != i)=true:=bne_iff_ne.mpr (by omega)
     clear h2
     by_cases hid:idleB x=true
     ·rw [hid] at HWB
      refine start_ (n:=32) (S:=fun w'=>w'.cell? ⟨g,0,none⟩=some (.slice (some ad0) l.length c0)∧w'.cell? ⟨g,1,none⟩=some (.slice (some ad1) dn.length c1)∧w'.cell? (ad1.add k)=some (.bool false)∧w'.cell? ⟨wr.heap.size,1,none⟩=some (.int .i64 x.f1)∧w'.cell? (ad0.add (i*10))=some (.int .i64 y.f0)) (ds:=[]) (TF [0,32]) (by kernel_rfl) rfl rfl ⟨s0,s1,s2,s3,s4⟩ (fun hHeld=>?_)
      generalize hW1:W.drew=W1 at hHeld ⊢
      have HF1:=Aside0.mk (show Fst g (some ad0) c0 l (some ad1) c1 dn left v3 W1 by rw [← hW1];exact HF.out)
      have HB1:=Aside0.mk (show Below w.heap.size w W1 by rw [← hW1];exact below_drew HB.out)
      clear HF HB hW1 s0 s1 s2 s3 s4
      have HF:=HF1
      have HB:=HB1
      clear HF1 HB1
      refine pure_ (i:=0) (N:=some 17) (v:=?_) (a':=?_) (TF [1,31]) rfl rfl (by kernel_rfl) (fun _ _ _ h=>h) (Or.inl ⟨by rfl,?_⟩) ?_ ?_
      rotate_left
      ·intro w'
       go_simp
       with_reducible rfl
      rotate_left
      ·simp only [Act.put,List.setIfInBounds_toArray,List.set_cons_zero,List.set_cons_succ,i64_w]
       rfl
      refine pure_ (i:=1) (N:=some 18) (v:=?_) (a':=?_) (TF [2,30]) rfl rfl (by kernel_rfl) (fun _ _ _ h=>h) (Or.inl ⟨by rfl,?_⟩) ?_ ?_
      rotate_left
      ·intro w'
       go_simp
       with_reducible rfl
      rotate_left
      ·simp only [Act.put,List.setIfInBounds_toArray,List.set_cons_zero,List.set_cons_succ,i64_w]
       rfl
      refine pure_ (i:=2) (N:=some 19) (v:=?_) (a':=?_) (TF [3,29]) rfl rfl (by kernel_rfl) (fun _ _ _ h=>h) (Or.inl ⟨by rfl,?_⟩) ?_ ?_
      rotate_left
      ·intro w'
       go_simp
       with_reducible rfl
      rotate_left
      ·simp only [Act.put,List.setIfInBounds_toArray,List.set_cons_zero,List.set_cons_succ,i64_w]
       rfl
      refine pure_ (i:=4) (N:=some 21) (v:=?_) (a':=?_) (TF [3,1,1,27]) rfl rfl (by kernel_rfl) (fun _ _ _ h=>h) (Or.inl ⟨by rfl,?_⟩) ?_ ?_
      rotate_left
      ·intro w'
       go_simp
       with_reducible rfl
      rotate_left
      ·simp only [Act.put,List.setIfInBounds_toArray,List.set_cons_zero,List.set_cons_succ,i64_w]
       rfl
      refine take_ (i:=3) (N:=some 20) (v:=?_) (a':=?_) (TF [5,27]) rfl rfl (by kernel_rfl) (fun _ _ _ h=>h) (Or.inl ⟨by rfl,?_⟩) hHeld ?_ ?_
      rotate_left
      ·rintro w' ⟨s0,s1,s2,s3,s4⟩
       go_simp
       with_reducible rfl
      rotate_left
      ·simp only [Act.put,List.setIfInBounds_toArray,List.set_cons_zero,List.set_cons_succ,i64_w]
       rfl
      refine pure_ (i:=5) (N:=some 22) (v:=?_) (a':=?_) (TF [6,26]) rfl rfl (by kernel_rfl) (fun _ _ _ h=>h) (Or.inl ⟨by rfl,?_⟩) ?_ ?_
      rotate_left
      ·intro w'
       go_simp
       with_reducible rfl
      rotate_left
      ·simp only [Act.put,List.setIfInBounds_toArray,List.set_cons_zero,List.set_cons_succ,i64_w]
       rfl
      refine take_ (i:=6) (N:=some 23) (v:=?_) (a':=?_) (TF [7,25]) rfl rfl (by kernel_rfl) (fun _ _ _ h=>h) (Or.inl ⟨by rfl,?_⟩) hHeld ?_ ?_
      rotate_left
      ·rintro w' ⟨s0,s1,s2,s3,s4⟩
       go_simp
       with_reducible rfl
      rotate_left
      ·simp only [Act.put,List.setIfInBounds_toArray,List.set_cons_zero,List.set_cons_succ,i64_w]
       rfl
      refine pure_ (i:=7) (N:=some 24) (v:=?_) (a':=?_) (TF [8,24]) rfl rfl (by kernel_rfl) (fun _ _ _ h=>h) (Or.inl ⟨by rfl,?_⟩) ?_ ?_
      rotate_left
      ·intro w'
       go_simp
       with_reducible rfl
      rotate_left
      ·simp only [Act.put,List.setIfInBounds_toArray,List.set_cons_zero,List.set_cons_succ,i64_w]
       rfl
      refine pure_ (i:=8) (N:=some 25) (v:=?_) (a':=?_) (TF [9,23]) rfl rfl (by kernel_rfl) (fun _ _ _ h=>h) (Or.inl ⟨by rfl,?_⟩) ?_ ?_
      rotate_left
      ·intro w'
       go_simp
       with_reducible rfl
      rotate_left
      ·simp only [Act.put,List.setIfInBounds_toArray,List.set_cons_zero,List.set_cons_succ,i64_w]
       rfl
      refine pure_ (i:=9) (N:=some 26) (v:=?_) (a':=?_) (TF [10,22]) rfl rfl (by kernel_rfl) (fun _ _ _ h=>h) (Or.inl ⟨by rfl,?_⟩) ?_ ?_
      rotate_left
      ·intro w'
       go_simp
       with_reducible rfl
      rotate_left
      ·simp only [Act.put,List.setIfInBounds_toArray,List.set_cons_zero,List.set_cons_succ,i64_w]
       rfl
      refine pure_ (i:=10) (N:=some 27) (v:=?_) (a':=?_) (TF [11,21]) rfl rfl (by kernel_rfl) (fun _ _ _ h=>h) (Or.inl ⟨by rfl,?_⟩) ?_ ?_
      rotate_left
      ·intro w'
       go_simp
       with_reducible rfl
      rotate_left
      ·simp only [Act.put,List.setIfInBounds_toArray,List.set_cons_zero,List.set_cons_succ,i64_w]
       rfl
      refine pure_ (i:=11) (N:=some 28) (v:=?_) (a':=?_) (TF [12,20]) rfl rfl (by kernel_rfl) (fun _ _ _ h=>h) (Or.inl ⟨by rfl,?_⟩) ?_ ?_
      rotate_left
      ·intro w'
       go_simp
       with_reducible rfl
      rotate_left
      ·simp only [Act.put,List.setIfInBounds_toArray,List.set_cons_zero,List.set_cons_succ,i64_w]
       rfl
      refine pure_ (i:=12) (N:=some 29) (v:=?_) (a':=?_) (TF [13,19]) rfl rfl (by kernel_rfl) (fun _ _ _ h=>h) (Or.inl ⟨by rfl,?_⟩) ?_ ?_
      rotate_left
      ·intro w'
       go_simp
       with_reducible rfl
      rotate_left
      ·simp only [Act.put,List.setIfInBounds_toArray,List.set_cons_zero,List.set_cons_succ,i64_w]
       rfl
      refine pure_ (i:=13) (N:=some 30) (v:=?_) (a':=?_) (TF [14,18]) rfl rfl (by kernel_rfl) (fun _ _ _ h=>h) (Or.inl ⟨by rfl,?_⟩) ?_ ?_
      rotate_left
      ·intro w'
       go_simp
       with_reducible rfl
      rotate_left
      ·simp only [Act.put,List.setIfInBounds_toArray,List.set_cons_zero,List.set_cons_succ,i64_w]
       rfl
      refine pure_ (i:=14) (N:=some 31) (v:=?_) (a':=?_) (TF [15,17]) rfl rfl (by kernel_rfl) (fun _ _ _ h=>h) (Or.inl ⟨by rfl,?_⟩) ?_ ?_
      rotate_left
      ·intro w'
       go_simp
       with_reducible rfl
      rotate_left
      ·simp only [Act.put,List.setIfInBounds_toArray,List.set_cons_zero,List.set_cons_succ,i64_w]
       rfl
      refine pure_ (i:=15) (N:=some 32) (v:=?_) (a':=?_) (TF [16,16]) rfl rfl (by kernel_rfl) (fun _ _ _ h=>h) (Or.inl ⟨by rfl,?_⟩) ?_ ?_
      rotate_left
      ·intro w'
       go_simp
       with_reducible rfl
      rotate_left
      ·simp only [Act.put,List.setIfInBounds_toArray,List.set_cons_zero,List.set_cons_succ,i64_w]
       rfl
      refine one_ (i:=16) (N:=some 33) (TF [17,15]) rfl rfl (by kernel_rfl) (by decide) (fun K hK=>?_)
      refine goes_ Tryd.func39 (by kernel_rfl) rfl #[.pointer (some ⟨g,0,none⟩), .int .i64 (k:Nat)] (by rfl) rfl rfl (by simp only [List.map_toArray,List.map_cons,List.map_nil];rfl) ?_
      with_reducible refine (idle_calls g (some ad0) c0 l (some ad1) c1 dn left v3 W1 HF.out k hk).mono ?_
      rintro e W2 ⟨rfl,hb⟩
      rw [HX.out,hid]
      refine ⟨_,rfl,?_⟩
      have n0_:=Aside0.mk (HF.out.below hb)
      have n1_:=Aside0.mk (below_step HB.out hb)
      clear HF HB
      have HF:=n0_
      have HB:=n1_
      clear n0_ n1_
      refine hK.out _ _ ⟨(hb.cell (World.block_lt_of_cell? _ _ (hHeld.1))).trans (hHeld.1),(hb.cell (World.block_lt_of_cell? _ _ (hHeld.2.1))).trans (hHeld.2.1),(hb.cell (World.block_lt_of_cell? _ _ (hHeld.2.2.1))).trans (hHeld.2.2.1),(hb.cell (World.block_lt_of_cell? _ _ (hHeld.2.2.2.1))).trans (hHeld.2.2.2.1),(hb.cell (World.block_lt_of_cell? _ _ (hHeld.2.2.2.2))).trans (hHeld.2.2.2.2)⟩ (fun hHeld=>?_)
      clear hK K
      refine norm_ (a':=?_) ?_ ?_
      rotate_left
      ·show Act.put _ (some 33) _=_
       simp only [Act.put,List.setIfInBounds_toArray,List.set_cons_zero,List.set_cons_succ,i64_w]
       rfl
      refine pure_ (i:=17) (N:=some 34) (v:=?_) (a':=?_) (TF [18,14]) rfl rfl (by kernel_rfl) (fun _ _ _ h=>h) (Or.inl ⟨by rfl,?_⟩) ?_ ?_
      rotate_left
      ·intro w'
       go_simp
       with_reducible rfl
      rotate_left
      ·simp only [Act.put,List.setIfInBounds_toArray,List.set_cons_zero,List.set_cons_succ,i64_w]
       rfl
      refine pure_ (i:=18) (N:=some 35) (v:=?_) (a':=?_) (TF [19,13]) rfl rfl (by kernel_rfl) (fun _ _ _ h=>h) (Or.inl ⟨by rfl,?_⟩) ?_ ?_
      rotate_left
      ·intro w'
       go_simp
       with_reducible rfl
      rotate_left
      ·simp only [Act.put,List.setIfInBounds_toArray,List.set_cons_zero,List.set_cons_succ,i64_w]
       rfl
      refine pure_ (i:=19) (N:=some 36) (v:=?_) (a':=?_) (TF [20,12]) rfl rfl (by kernel_rfl) (fun _ _ _ h=>h) (Or.inl ⟨by rfl,?_⟩) ?_ ?_
      rotate_left
      ·intro w'
       go_simp
       with_reducible rfl
      rotate_left
      ·simp only [Act.put,List.setIfInBounds_toArray,List.set_cons_zero,List.set_cons_succ,i64_w]
       rfl
      refine pure_ (i:=20) (N:=some 37) (v:=undef) (a':=?_) (TF [21,11]) rfl rfl (by kernel_rfl) (fun _ _ _ h=>h) (Or.inr ⟨by rfl,rfl⟩) ?_ ?_
      rotate_left
      ·simp only [Act.put,List.setIfInBounds_toArray,List.set_cons_zero,List.set_cons_succ,i64_w]
       rfl
      refine pure_ (i:=21) (N:=some 38) (v:=undef) (a':=?_) (TF [22,10]) rfl rfl (by kernel_rfl) (fun _ _ _ h=>h) (Or.inr ⟨by rfl,rfl⟩) ?_ ?_
      rotate_left
      ·simp only [Act.put,List.setIfInBounds_toArray,List.set_cons_zero,List.set_cons_succ,i64_w]
       rfl
      refine pure_ (i:=22) (N:=some 39) (v:=undef) (a':=?_) (TF [23,9]) rfl rfl (by kernel_rfl) (fun _ _ _ h=>h) (Or.inr ⟨by rfl,rfl⟩) ?_ ?_
      rotate_left
      ·simp only [Act.put,List.setIfInBounds_toArray,List.set_cons_zero,List.set_cons_succ,i64_w]
       rfl
      refine pure_ (i:=23) (N:=some 40) (v:=undef) (a':=?_) (TF [24,8]) rfl rfl (by kernel_rfl) (fun _ _ _ h=>h) (Or.inr ⟨by rfl,rfl⟩) ?_ ?_
      rotate_left
      ·simp only [Act.put,List.setIfInBounds_toArray,List.set_cons_zero,List.set_cons_succ,i64_w]
       rfl
      refine pure_ (i:=24) (N:=some 41) (v:=undef) (a':=?_) (TF [25,7]) rfl rfl (by kernel_rfl) (fun _ _ _ h=>h) (Or.inr ⟨by rfl,rfl⟩) ?_ ?_
      rotate_left
      ·simp only [Act.put,List.setIfInBounds_toArray,List.set_cons_zero,List.set_cons_succ,i64_w]
       rfl
      refine pure_ (i:=25) (N:=some 42) (v:=undef) (a':=?_) (TF [26,6]) rfl rfl (by kernel_rfl) (fun _ _ _ h=>h) (Or.inr ⟨by rfl,rfl⟩) ?_ ?_
      rotate_left
      ·simp only [Act.put,List.setIfInBounds_toArray,List.set_cons_zero,List.set_cons_succ,i64_w]
       rfl
      refine pure_ (i:=26) (N:=some 43) (v:=undef) (a':=?_) (TF [27,5]) rfl rfl (by kernel_rfl) (fun _ _ _ h=>h) (Or.inr ⟨by rfl,rfl⟩) ?_ ?_
      rotate_left
      ·simp only [Act.put,List.setIfInBounds_toArray,List.set_cons_zero,List.set_cons_succ,i64_w]
       rfl
      refine pure_ (i:=27) (N:=some 44) (v:=undef) (a':=?_) (TF [28,4]) rfl rfl (by kernel_rfl) (fun _ _ _ h=>h) (Or.inr ⟨by rfl,rfl⟩) ?_ ?_
      rotate_left
      ·simp only [Act.put,List.setIfInBounds_toArray,List.set_cons_zero,List.set_cons_succ,i64_w]
       rfl
      refine pure_ (i:=28) (N:=some 45) (v:=undef) (a':=?_) (TF [29,3]) rfl rfl (by kernel_rfl) (fun _ _ _ h=>h) (Or.inr ⟨by rfl,rfl⟩) ?_ ?_
      rotate_left
      ·simp only [Act.put,List.setIfInBounds_toArray,List.set_cons_zero,List.set_cons_succ,i64_w]
       rfl
      refine pure_ (i:=29) (N:=some 46) (v:=undef) (a':=?_) (TF [30,2]) rfl rfl (by kernel_rfl) (fun _ _ _ h=>h) (Or.inr ⟨by rfl,rfl⟩) ?_ ?_
      rotate_left
      ·simp only [Act.put,List.setIfInBounds_toArray,List.set_cons_zero,List.set_cons_succ,i64_w]
       rfl
      refine pure_ (i:=30) (N:=some 47) (v:=undef) (a':=?_) (TF [31,1]) rfl rfl (by kernel_rfl) (fun _ _ _ h=>h) (Or.inr ⟨by rfl,rfl⟩) ?_ ?_
      rotate_left
      ·simp only [Act.put,List.setIfInBounds_toArray,List.set_cons_zero,List.set_cons_succ,i64_w]
       rfl
      refine pure_ (i:=31) (N:=some 48) (v:=?_) (a':=?_) (TF [32]) rfl rfl (by kernel_rfl) (fun _ _ _ h=>h) (Or.inl ⟨by rfl,?_⟩) ?_ ?_
      rotate_left
      ·intro w'
       go_simp
       with_reducible rfl
      rotate_left
      ·simp only [Act.put,List.setIfInBounds_toArray,List.set_cons_zero,List.set_cons_succ,i64_w]
       rfl
      refine done_ (by kernel_rfl) ?_
      go_wp2
      go_roundg (l.length - k)
      case measure=>have:=HG.out.2;omega
      case rel=>exact ⟨k+1,by go_num,⟨by have:=HG.out;omega⟩,⟨fun j hj=>by
       by_cases hq:j=k
       ·subst hq;exact HWB.out
       ·exact HA.out j (by omega)⟩,⟨HF.out,HB.out⟩⟩
     ·have hid:idleB x=false:=by simpa using hid
      rw [hid] at HWB
      by_cases hlt:x.f1 < y.f0
      ·have hlb:decide (x.f1 < y.f0)=true:=decide_eq_true hlt
       rw [hlb] at HWB
       clear hlt
       have HO:=Aside0.mk (freeB_no hk HWB.out)
       refine start_ (n:=32) (S:=fun w'=>w'.cell? ⟨g,0,none⟩=some (.slice (some ad0) l.length c0)∧w'.cell? ⟨g,1,none⟩=some (.slice (some ad1) dn.length c1)∧w'.cell? (ad1.add k)=some (.bool false)∧w'.cell? ⟨wr.heap.size,1,none⟩=some (.int .i64 x.f1)∧w'.cell? (ad0.add (i*10))=some (.int .i64 y.f0)) (ds:=[]) (TF [0,32]) (by kernel_rfl) rfl rfl ⟨s0,s1,s2,s3,s4⟩ (fun hHeld=>?_)
       generalize hW1:W.drew=W1 at hHeld ⊢
       have HF1:=Aside0.mk (show Fst g (some ad0) c0 l (some ad1) c1 dn left v3 W1 by rw [← hW1];exact HF.out)
       have HB1:=Aside0.mk (show Below w.heap.size w W1 by rw [← hW1];exact below_drew HB.out)
       clear HF HB hW1 s0 s1 s2 s3 s4
       have HF:=HF1
       have HB:=HB1
       clear HF1 HB1
       refine pure_ (i:=0) (N:=some 17) (v:=?_) (a':=?_) (TF [1,31]) rfl rfl (by kernel_rfl) (fun _ _ _ h=>h) (Or.inl ⟨by rfl,?_⟩) ?_ ?_
       rotate_left
       ·intro w'
        go_simp
        with_reducible rfl
       rotate_left
       ·simp only [Act.put,List.setIfInBounds_toArray,List.set_cons_zero,List.set_cons_succ,i64_w]
        rfl
       refine pure_ (i:=1) (N:=some 18) (v:=?_) (a':=?_) (TF [2,30]) rfl rfl (by kernel_rfl) (fun _ _ _ h=>h) (Or.inl ⟨by rfl,?_⟩) ?_ ?_
       rotate_left
       ·intro w'
        go_simp
        with_reducible rfl
       rotate_left
       ·simp only [Act.put,List.setIfInBounds_toArray,List.set_cons_zero,List.set_cons_succ,i64_w]
        rfl
       refine pure_ (i:=2) (N:=some 19) (v:=?_) (a':=?_) (TF [3,29]) rfl rfl (by kernel_rfl) (fun _ _ _ h=>h) (Or.inl ⟨by rfl,?_⟩) ?_ ?_
       rotate_left
       ·intro w'
        go_simp
        with_reducible rfl
       rotate_left
       ·simp only [Act.put,List.setIfInBounds_toArray,List.set_cons_zero,List.set_cons_succ,i64_w]
        rfl
       refine pure_ (i:=4) (N:=some 21) (v:=?_) (a':=?_) (TF [3,1,1,27]) rfl rfl (by kernel_rfl) (fun _ _ _ h=>h) (Or.inl ⟨by rfl,?_⟩) ?_ ?_
       rotate_left
       ·intro w'
        go_simp
        with_reducible rfl
       rotate_left
       ·simp only [Act.put,List.setIfInBounds_toArray,List.set_cons_zero,List.set_cons_succ,i64_w]
        rfl
       refine take_ (i:=3) (N:=some 20) (v:=?_) (a':=?_) (TF [5,27]) rfl rfl (by kernel_rfl) (fun _ _ _ h=>h) (Or.inl ⟨by rfl,?_⟩) hHeld ?_ ?_
       rotate_left
       ·rintro w' ⟨s0,s1,s2,s3,s4⟩
        go_simp
        with_reducible rfl
       rotate_left
       ·simp only [Act.put,List.setIfInBounds_toArray,List.set_cons_zero,List.set_cons_succ,i64_w]
        rfl
       refine pure_ (i:=5) (N:=some 22) (v:=?_) (a':=?_) (TF [6,26]) rfl rfl (by kernel_rfl) (fun _ _ _ h=>h) (Or.inl ⟨by rfl,?_⟩) ?_ ?_
       rotate_left
       ·intro w'
        go_simp
        with_reducible rfl
       rotate_left
       ·simp only [Act.put,List.setIfInBounds_toArray,List.set_cons_zero,List.set_cons_succ,i64_w]
        rfl
       refine take_ (i:=6) (N:=some 23) (v:=?_) (a':=?_) (TF [7,25]) rfl rfl (by kernel_rfl) (fun _ _ _ h=>h) (Or.inl ⟨by rfl,?_⟩) hHeld ?_ ?_
       rotate_left
       ·rintro w' ⟨s0,s1,s2,s3,s4⟩
        go_simp
        with_reducible rfl
       rotate_left
       ·simp only [Act.put,List.setIfInBounds_toArray,List.set_cons_zero,List.set_cons_succ,i64_w]
        rfl
       refine pure_ (i:=7) (N:=some 24) (v:=?_) (a':=?_) (TF [8,24]) rfl rfl (by kernel_rfl) (fun _ _ _ h=>h) (Or.inl ⟨by rfl,?_⟩) ?_ ?_
       rotate_left
       ·intro w'
        go_simp
        with_reducible rfl
       rotate_left
       ·simp only [Act.put,List.setIfInBounds_toArray,List.set_cons_zero,List.set_cons_succ,i64_w]
        rfl
       refine pure_ (i:=8) (N:=some 25) (v:=?_) (a':=?_) (TF [9,23]) rfl rfl (by kernel_rfl) (fun _ _ _ h=>h) (Or.inl ⟨by rfl,?_⟩) ?_ ?_
       rotate_left
       ·intro w'
        go_simp
        with_reducible rfl
       rotate_left
       ·simp only [Act.put,List.setIfInBounds_toArray,List.set_cons_zero,List.set_cons_succ,i64_w]
        rfl
       refine pure_ (i:=9) (N:=some 26) (v:=?_) (a':=?_) (TF [10,22]) rfl rfl (by kernel_rfl) (fun _ _ _ h=>h) (Or.inl ⟨by rfl,?_⟩) ?_ ?_
       rotate_left
       ·intro w'
        go_simp
        with_reducible rfl
       rotate_left
       ·simp only [Act.put,List.setIfInBounds_toArray,List.set_cons_zero,List.set_cons_succ,i64_w]
        rfl
       refine pure_ (i:=10) (N:=some 27) (v:=?_) (a':=?_) (TF [11,21]) rfl rfl (by kernel_rfl) (fun _ _ _ h=>h) (Or.inl ⟨by rfl,?_⟩) ?_ ?_
       rotate_left
       ·intro w'
        go_simp
        with_reducible rfl
       rotate_left
       ·simp only [Act.put,List.setIfInBounds_toArray,List.set_cons_zero,List.set_cons_succ,i64_w]
        rfl
       refine pure_ (i:=11) (N:=some 28) (v:=?_) (a':=?_) (TF [12,20]) rfl rfl (by kernel_rfl) (fun _ _ _ h=>h) (Or.inl ⟨by rfl,?_⟩) ?_ ?_
       rotate_left
       ·intro w'
        go_simp
        with_reducible rfl
       rotate_left
       ·simp only [Act.put,List.setIfInBounds_toArray,List.set_cons_zero,List.set_cons_succ,i64_w]
        rfl
       refine pure_ (i:=12) (N:=some 29) (v:=?_) (a':=?_) (TF [13,19]) rfl rfl (by kernel_rfl) (fun _ _ _ h=>h) (Or.inl ⟨by rfl,?_⟩) ?_ ?_
       rotate_left
       ·intro w'
        go_simp
        with_reducible rfl
       rotate_left
       ·simp only [Act.put,List.setIfInBounds_toArray,List.set_cons_zero,List.set_cons_succ,i64_w]
        rfl
       refine pure_ (i:=13) (N:=some 30) (v:=?_) (a':=?_) (TF [14,18]) rfl rfl (by kernel_rfl) (fun _ _ _ h=>h) (Or.inl ⟨by rfl,?_⟩) ?_ ?_
       rotate_left
       ·intro w'
        go_simp
        with_reducible rfl
       rotate_left
       ·simp only [Act.put,List.setIfInBounds_toArray,List.set_cons_zero,List.set_cons_succ,i64_w]
        rfl
       refine pure_ (i:=14) (N:=some 31) (v:=?_) (a':=?_) (TF [15,17]) rfl rfl (by kernel_rfl) (fun _ _ _ h=>h) (Or.inl ⟨by rfl,?_⟩) ?_ ?_
       rotate_left
       ·intro w'
        go_simp
        with_reducible rfl
       rotate_left
       ·simp only [Act.put,List.setIfInBounds_toArray,List.set_cons_zero,List.set_cons_succ,i64_w]
        rfl
       refine pure_ (i:=15) (N:=some 32) (v:=?_) (a':=?_) (TF [16,16]) rfl rfl (by kernel_rfl) (fun _ _ _ h=>h) (Or.inl ⟨by rfl,?_⟩) ?_ ?_
       rotate_left
       ·intro w'
        go_simp
        with_reducible rfl
       rotate_left
       ·simp only [Act.put,List.setIfInBounds_toArray,List.set_cons_zero,List.set_cons_succ,i64_w]
        rfl
       refine one_ (i:=16) (N:=some 33) (TF [17,15]) rfl rfl (by kernel_rfl) (by decide) (fun K hK=>?_)
       refine goes_ Tryd.func39 (by kernel_rfl) rfl #[.pointer (some ⟨g,0,none⟩), .int .i64 (k:Nat)] (by rfl) rfl rfl (by simp only [List.map_toArray,List.map_cons,List.map_nil];rfl) ?_
       with_reducible refine (idle_calls g (some ad0) c0 l (some ad1) c1 dn left v3 W1 HF.out k hk).mono ?_
       rintro e W2 ⟨rfl,hb⟩
       rw [HX.out,hid]
       refine ⟨_,rfl,?_⟩
       have n0_:=Aside0.mk (HF.out.below hb)
       have n1_:=Aside0.mk (below_step HB.out hb)
       clear HF HB
       have HF:=n0_
       have HB:=n1_
       clear n0_ n1_
       refine hK.out _ _ ⟨(hb.cell (World.block_lt_of_cell? _ _ (hHeld.1))).trans (hHeld.1),(hb.cell (World.block_lt_of_cell? _ _ (hHeld.2.1))).trans (hHeld.2.1),(hb.cell (World.block_lt_of_cell? _ _ (hHeld.2.2.1))).trans (hHeld.2.2.1),(hb.cell (World.block_lt_of_cell? _ _ (hHeld.2.2.2.1))).trans (hHeld.2.2.2.1),(hb.cell (World.block_lt_of_cell? _ _ (hHeld.2.2.2.2))).trans (hHeld.2.2.2.2)⟩ (fun hHeld=>?_)
       clear hK K
       refine norm_ (a':=?_) ?_ ?_
       rotate_left
       ·show Act.put _ (some 33) _=_
        simp only [Act.put,List.setIfInBounds_toArray,List.set_cons_zero,List.set_cons_succ,i64_w]
        rfl
       refine pure_ (i:=17) (N:=some 34) (v:=?_) (a':=?_) (TF [18,14]) rfl rfl (by kernel_rfl) (fun _ _ _ h=>h) (Or.inl ⟨by rfl,?_⟩) ?_ ?_
       rotate_left
       ·intro w'
        go_simp
        with_reducible rfl
       rotate_left
       ·simp only [Act.put,List.setIfInBounds_toArray,List.set_cons_zero,List.set_cons_succ,i64_w]
        rfl
       refine pure_ (i:=18) (N:=some 35) (v:=?_) (a':=?_) (TF [19,13]) rfl rfl (by kernel_rfl) (fun _ _ _ h=>h) (Or.inl ⟨by rfl,?_⟩) ?_ ?_
       rotate_left
       ·intro w'
        go_simp
        with_reducible rfl
       rotate_left
       ·simp only [Act.put,List.setIfInBounds_toArray,List.set_cons_zero,List.set_cons_succ,i64_w]
        rfl
       refine pure_ (i:=19) (N:=some 36) (v:=?_) (a':=?_) (TF [20,12]) rfl rfl (by kernel_rfl) (fun _ _ _ h=>h) (Or.inl ⟨by rfl,?_⟩) ?_ ?_
       rotate_left
       ·intro w'
        go_simp
        with_reducible rfl
       rotate_left
       ·simp only [Act.put,List.setIfInBounds_toArray,List.set_cons_zero,List.set_cons_succ,i64_w]
        rfl
       refine pure_ (i:=20) (N:=some 37) (v:=?_) (a':=?_) (TF [21,11]) rfl rfl (by kernel_rfl) (fun _ _ _ h=>h) (Or.inl ⟨by rfl,?_⟩) ?_ ?_
       rotate_left
       ·intro w'
        go_simp
        with_reducible rfl
       rotate_left
       ·simp only [Act.put,List.setIfInBounds_toArray,List.set_cons_zero,List.set_cons_succ,i64_w]
        rfl
       refine pure_ (i:=22) (N:=some 39) (v:=?_) (a':=?_) (TF [21,1,1,9]) rfl rfl (by kernel_rfl) (fun _ _ _ h=>h) (Or.inl ⟨by rfl,?_⟩) ?_ ?_
       rotate_left
       ·intro w'
        go_simp
        with_reducible rfl
       rotate_left
       ·simp only [Act.put,List.setIfInBounds_toArray,List.set_cons_zero,List.set_cons_succ,i64_w]
        rfl
       refine pure_ (i:=23) (N:=some 40) (v:=?_) (a':=?_) (TF [21,1,2,8]) rfl rfl (by kernel_rfl) (fun _ _ _ h=>h) (Or.inl ⟨by rfl,?_⟩) ?_ ?_
       rotate_left
       ·intro w'
        go_simp
        with_reducible rfl
       rotate_left
       ·simp only [Act.put,List.setIfInBounds_toArray,List.set_cons_zero,List.set_cons_succ,i64_w]
        rfl
       refine pure_ (i:=24) (N:=some 41) (v:=?_) (a':=?_) (TF [21,1,3,7]) rfl rfl (by kernel_rfl) (fun _ _ _ h=>h) (Or.inl ⟨by rfl,?_⟩) ?_ ?_
       rotate_left
       ·intro w'
        go_simp
        with_reducible rfl
       rotate_left
       ·simp only [Act.put,List.setIfInBounds_toArray,List.set_cons_zero,List.set_cons_succ,i64_w]
        rfl
       refine pure_ (i:=26) (N:=some 43) (v:=?_) (a':=?_) (TF [21,1,3,1,1,5]) rfl rfl (by kernel_rfl) (fun _ _ _ h=>h) (Or.inl ⟨by rfl,?_⟩) ?_ ?_
       rotate_left
       ·intro w'
        go_simp
        with_reducible rfl
       rotate_left
       ·simp only [Act.put,List.setIfInBounds_toArray,List.set_cons_zero,List.set_cons_succ,i64_w]
        rfl
       refine take_ (i:=21) (N:=some 38) (v:=?_) (a':=?_) (TF [25,1,1,5]) rfl rfl (by kernel_rfl) (fun _ _ _ h=>h) (Or.inl ⟨by rfl,?_⟩) hHeld ?_ ?_
       rotate_left
       ·rintro w' ⟨s0,s1,s2,s3,s4⟩
        go_simp
        with_reducible rfl
       rotate_left
       ·simp only [Act.put,List.setIfInBounds_toArray,List.set_cons_zero,List.set_cons_succ,i64_w]
        rfl
       refine take_ (i:=25) (N:=some 42) (v:=?_) (a':=?_) (TF [27,5]) rfl rfl (by kernel_rfl) (fun _ _ _ h=>h) (Or.inl ⟨by rfl,?_⟩) hHeld ?_ ?_
       rotate_left
       ·rintro w' ⟨s0,s1,s2,s3,s4⟩
        go_simp
        with_reducible rfl
       rotate_left
       ·simp only [Act.put,List.setIfInBounds_toArray,List.set_cons_zero,List.set_cons_succ,i64_w]
        rfl
       refine pure_ (i:=27) (N:=some 44) (v:=?_) (a':=?_) (TF [28,4]) rfl rfl (by kernel_rfl) (fun _ _ _ h=>h) (Or.inl ⟨by rfl,?_⟩) ?_ ?_
       rotate_left
       ·intro w'
        go_simp
        with_reducible rfl
       rotate_left
       ·simp only [Act.put,List.setIfInBounds_toArray,List.set_cons_zero,List.set_cons_succ,i64_w]
        rfl
       refine pure_ (i:=28) (N:=some 45) (v:=?_) (a':=?_) (TF [29,3]) rfl rfl (by kernel_rfl) (fun _ _ _ h=>h) (Or.inl ⟨by rfl,?_⟩) ?_ ?_
       rotate_left
       ·intro w'
        go_simp
        with_reducible rfl
       rotate_left
       ·simp only [Act.put,List.setIfInBounds_toArray,List.set_cons_zero,List.set_cons_succ,i64_w]
        rfl
       refine take_ (i:=29) (N:=some 46) (v:=?_) (a':=?_) (TF [30,2]) rfl rfl (by kernel_rfl) (fun _ _ _ h=>h) (Or.inl ⟨by rfl,?_⟩) hHeld ?_ ?_
       rotate_left
       ·rintro w' ⟨s0,s1,s2,s3,s4⟩
        go_simp
        with_reducible rfl
       rotate_left
       ·simp only [Act.put,List.setIfInBounds_toArray,List.set_cons_zero,List.set_cons_succ,i64_w]
        rfl
       refine pure_ (i:=30) (N:=some 47) (v:=?_) (a':=?_) (TF [31,1]) rfl rfl (by kernel_rfl) (fun _ _ _ h=>h) (Or.inl ⟨by rfl,?_⟩) ?_ ?_
       rotate_left
       ·intro w'
        go_simp
        with_reducible rfl
       rotate_left
       ·simp only [Act.put,List.setIfInBounds_toArray,List.set_cons_zero,List.set_cons_succ,i64_w]
        rfl
       refine pure_ (i:=31) (N:=some 48) (v:=?_) (a':=?_) (TF [32]) rfl rfl (by kernel_rfl) (fun _ _ _ h=>h) (Or.inl ⟨by rfl,?_⟩) ?_ ?_
       rotate_left
       ·intro w'
        go_simp
        with_reducible rfl
       rotate_left
       ·simp only [Act.put,List.setIfInBounds_toArray,List.set_cons_zero,List.set_cons_succ,i64_w]
        rfl
       refine done_ (by kernel_rfl) ?_
       go_wp2
       go_ret
       exact ⟨by rw [HO.out];rfl,HB.out⟩
      ·have hlb:decide (x.f1 < y.f0)=false:=decide_eq_false hlt
       rw [hlb] at HWB
       clear hlt
       refine start_ (n:=32) (S:=fun w'=>w'.cell? ⟨g,0,none⟩=some (.slice (some ad0) l.length c0)∧w'.cell? ⟨g,1,none⟩=some (.slice (some ad1) dn.length c1)∧w'.cell? (ad1.add k)=some (.bool false)∧w'.cell? ⟨wr.heap.size,1,none⟩=some (.int .i64 x.f1)∧w'.cell? (ad0.add (i*10))=some (.int .i64 y.f0)) (ds:=[]) (TF [0,32]) (by kernel_rfl) rfl rfl ⟨s0,s1,s2,s3,s4⟩ (fun hHeld=>?_)
       generalize hW1:W.drew=W1 at hHeld ⊢
       have HF1:=Aside0.mk (show Fst g (some ad0) c0 l (some ad1) c1 dn left v3 W1 by rw [← hW1];exact HF.out)
       have HB1:=Aside0.mk (show Below w.heap.size w W1 by rw [← hW1];exact below_drew HB.out)
       clear HF HB hW1 s0 s1 s2 s3 s4
       have HF:=HF1
       have HB:=HB1
       clear HF1 HB1
       refine pure_ (i:=0) (N:=some 17) (v:=?_) (a':=?_) (TF [1,31]) rfl rfl (by kernel_rfl) (fun _ _ _ h=>h) (Or.inl ⟨by rfl,?_⟩) ?_ ?_
       rotate_left
       ·intro w'
        go_simp
        with_reducible rfl
       rotate_left
       ·simp only [Act.put,List.setIfInBounds_toArray,List.set_cons_zero,List.set_cons_succ,i64_w]
        rfl
       refine pure_ (i:=1) (N:=some 18) (v:=?_) (a':=?_) (TF [2,30]) rfl rfl (by kernel_rfl) (fun _ _ _ h=>h) (Or.inl ⟨by rfl,?_⟩) ?_ ?_
       rotate_left
       ·intro w'
        go_simp
        with_reducible rfl
       rotate_left
       ·simp only [Act.put,List.setIfInBounds_toArray,List.set_cons_zero,List.set_cons_succ,i64_w]
        rfl
       refine pure_ (i:=2) (N:=some 19) (v:=?_) (a':=?_) (TF [3,29]) rfl rfl (by kernel_rfl) (fun _ _ _ h=>h) (Or.inl ⟨by rfl,?_⟩) ?_ ?_
       rotate_left
       ·intro w'
        go_simp
        with_reducible rfl
       rotate_left
       ·simp only [Act.put,List.setIfInBounds_toArray,List.set_cons_zero,List.set_cons_succ,i64_w]
        rfl
       refine pure_ (i:=4) (N:=some 21) (v:=?_) (a':=?_) (TF [3,1,1,27]) rfl rfl (by kernel_rfl) (fun _ _ _ h=>h) (Or.inl ⟨by rfl,?_⟩) ?_ ?_
       rotate_left
       ·intro w'
        go_simp
        with_reducible rfl
       rotate_left
       ·simp only [Act.put,List.setIfInBounds_toArray,List.set_cons_zero,List.set_cons_succ,i64_w]
        rfl
       refine take_ (i:=3) (N:=some 20) (v:=?_) (a':=?_) (TF [5,27]) rfl rfl (by kernel_rfl) (fun _ _ _ h=>h) (Or.inl ⟨by rfl,?_⟩) hHeld ?_ ?_
       rotate_left
       ·rintro w' ⟨s0,s1,s2,s3,s4⟩
        go_simp
        with_reducible rfl
       rotate_left
       ·simp only [Act.put,List.setIfInBounds_toArray,List.set_cons_zero,List.set_cons_succ,i64_w]
        rfl
       refine pure_ (i:=5) (N:=some 22) (v:=?_) (a':=?_) (TF [6,26]) rfl rfl (by kernel_rfl) (fun _ _ _ h=>h) (Or.inl ⟨by rfl,?_⟩) ?_ ?_
       rotate_left
       ·intro w'
        go_simp
        with_reducible rfl
       rotate_left
       ·simp only [Act.put,List.setIfInBounds_toArray,List.set_cons_zero,List.set_cons_succ,i64_w]
        rfl
       refine take_ (i:=6) (N:=some 23) (v:=?_) (a':=?_) (TF [7,25]) rfl rfl (by kernel_rfl) (fun _ _ _ h=>h) (Or.inl ⟨by rfl,?_⟩) hHeld ?_ ?_
       rotate_left
       ·rintro w' ⟨s0,s1,s2,s3,s4⟩
        go_simp
        with_reducible rfl
       rotate_left
       ·simp only [Act.put,List.setIfInBounds_toArray,List.set_cons_zero,List.set_cons_succ,i64_w]
        rfl
       refine pure_ (i:=7) (N:=some 24) (v:=?_) (a':=?_) (TF [8,24]) rfl rfl (by kernel_rfl) (fun _ _ _ h=>h) (Or.inl ⟨by rfl,?_⟩) ?_ ?_
       rotate_left
       ·intro w'
        go_simp
        with_reducible rfl
       rotate_left
       ·simp only [Act.put,List.setIfInBounds_toArray,List.set_cons_zero,List.set_cons_succ,i64_w]
        rfl
       refine pure_ (i:=8) (N:=some 25) (v:=?_) (a':=?_) (TF [9,23]) rfl rfl (by kernel_rfl) (fun _ _ _ h=>h) (Or.inl ⟨by rfl,?_⟩) ?_ ?_
       rotate_left
       ·intro w'
        go_simp
        with_reducible rfl
       rotate_left
       ·simp only [Act.put,List.setIfInBounds_toArray,List.set_cons_zero,List.set_cons_succ,i64_w]
        rfl
       refine pure_ (i:=9) (N:=some 26) (v:=?_) (a':=?_) (TF [10,22]) rfl rfl (by kernel_rfl) (fun _ _ _ h=>h) (Or.inl ⟨by rfl,?_⟩) ?_ ?_
       rotate_left
       ·intro w'
        go_simp
        with_reducible rfl
       rotate_left
       ·simp only [Act.put,List.setIfInBounds_toArray,List.set_cons_zero,List.set_cons_succ,i64_w]
        rfl
       refine pure_ (i:=10) (N:=some 27) (v:=?_) (a':=?_) (TF [11,21]) rfl rfl (by kernel_rfl) (fun _ _ _ h=>h) (Or.inl ⟨by rfl,?_⟩) ?_ ?_
       rotate_left
       ·intro w'
        go_simp
        with_reducible rfl
       rotate_left
       ·simp only [Act.put,List.setIfInBounds_toArray,List.set_cons_zero,List.set_cons_succ,i64_w]
        rfl
       refine pure_ (i:=11) (N:=some 28) (v:=?_) (a':=?_) (TF [12,20]) rfl rfl (by kernel_rfl) (fun _ _ _ h=>h) (Or.inl ⟨by rfl,?_⟩) ?_ ?_
       rotate_left
       ·intro w'
        go_simp
        with_reducible rfl
       rotate_left
       ·simp only [Act.put,List.setIfInBounds_toArray,List.set_cons_zero,List.set_cons_succ,i64_w]
        rfl
       refine pure_ (i:=12) (N:=some 29) (v:=?_) (a':=?_) (TF [13,19]) rfl rfl (by kernel_rfl) (fun _ _ _ h=>h) (Or.inl ⟨by rfl,?_⟩) ?_ ?_
       rotate_left
       ·intro w'
        go_simp
        with_reducible rfl
       rotate_left
       ·simp only [Act.put,List.setIfInBounds_toArray,List.set_cons_zero,List.set_cons_succ,i64_w]
        rfl
       refine pure_ (i:=13) (N:=some 30) (v:=?_) (a':=?_) (TF [14,18]) rfl rfl (by kernel_rfl) (fun _ _ _ h=>h) (Or.inl ⟨by rfl,?_⟩) ?_ ?_
       rotate_left
       ·intro w'
        go_simp
        with_reducible rfl
       rotate_left
       ·simp only [Act.put,List.setIfInBounds_toArray,List.set_cons_zero,List.set_cons_succ,i64_w]
        rfl
       refine pure_ (i:=14) (N:=some 31) (v:=?_) (a':=?_) (TF [15,17]) rfl rfl (by kernel_rfl) (fun _ _ _ h=>h) (Or.inl ⟨by rfl,?_⟩) ?_ ?_
       rotate_left
       ·intro w'
        go_simp
        with_reducible rfl
       rotate_left
       ·simp only [Act.put,List.setIfInBounds_toArray,List.set_cons_zero,List.set_cons_succ,i64_w]
        rfl
       refine pure_ (i:=15) (N:=some 32) (v:=?_) (a':=?_) (TF [16,16]) rfl rfl (by kernel_rfl) (fun _ _ _ h=>h) (Or.inl ⟨by rfl,?_⟩) ?_ ?_
       rotate_left
       ·intro w'
        go_simp
        with_reducible rfl
       rotate_left
       ·simp only [Act.put,List.setIfInBounds_toArray,List.set_cons_zero,List.set_cons_succ,i64_w]
        rfl
       refine one_ (i:=16) (N:=some 33) (TF [17,15]) rfl rfl (by kernel_rfl) (by decide) (fun K hK=>?_)
       refine goes_ Tryd.func39 (by kernel_rfl) rfl #[.pointer (some ⟨g,0,none⟩), .int .i64 (k:Nat)] (by rfl) rfl rfl (by simp only [List.map_toArray,List.map_cons,List.map_nil];rfl) ?_
       with_reducible refine (idle_calls g (some ad0) c0 l (some ad1) c1 dn left v3 W1 HF.out k hk).mono ?_
       rintro e W2 ⟨rfl,hb⟩
       rw [HX.out,hid]
       refine ⟨_,rfl,?_⟩
       have n0_:=Aside0.mk (HF.out.below hb)
       have n1_:=Aside0.mk (below_step HB.out hb)
       clear HF HB
       have HF:=n0_
       have HB:=n1_
       clear n0_ n1_
       refine hK.out _ _ ⟨(hb.cell (World.block_lt_of_cell? _ _ (hHeld.1))).trans (hHeld.1),(hb.cell (World.block_lt_of_cell? _ _ (hHeld.2.1))).trans (hHeld.2.1),(hb.cell (World.block_lt_of_cell? _ _ (hHeld.2.2.1))).trans (hHeld.2.2.1),(hb.cell (World.block_lt_of_cell? _ _ (hHeld.2.2.2.1))).trans (hHeld.2.2.2.1),(hb.cell (World.block_lt_of_cell? _ _ (hHeld.2.2.2.2))).trans (hHeld.2.2.2.2)⟩ (fun hHeld=>?_)
       clear hK K
       refine norm_ (a':=?_) ?_ ?_
       rotate_left
       ·show Act.put _ (some 33) _=_
        simp only [Act.put,List.setIfInBounds_toArray,List.set_cons_zero,List.set_cons_succ,i64_w]
        rfl
       refine pure_ (i:=17) (N:=some 34) (v:=?_) (a':=?_) (TF [18,14]) rfl rfl (by kernel_rfl) (fun _ _ _ h=>h) (Or.inl ⟨by rfl,?_⟩) ?_ ?_
       rotate_left
       ·intro w'
        go_simp
        with_reducible rfl
       rotate_left
       ·simp only [Act.put,List.setIfInBounds_toArray,List.set_cons_zero,List.set_cons_succ,i64_w]
        rfl
       refine pure_ (i:=18) (N:=some 35) (v:=?_) (a':=?_) (TF [19,13]) rfl rfl (by kernel_rfl) (fun _ _ _ h=>h) (Or.inl ⟨by rfl,?_⟩) ?_ ?_
       rotate_left
       ·intro w'
        go_simp
        with_reducible rfl
       rotate_left
       ·simp only [Act.put,List.setIfInBounds_toArray,List.set_cons_zero,List.set_cons_succ,i64_w]
        rfl
       refine pure_ (i:=19) (N:=some 36) (v:=?_) (a':=?_) (TF [20,12]) rfl rfl (by kernel_rfl) (fun _ _ _ h=>h) (Or.inl ⟨by rfl,?_⟩) ?_ ?_
       rotate_left
       ·intro w'
        go_simp
        with_reducible rfl
       rotate_left
       ·simp only [Act.put,List.setIfInBounds_toArray,List.set_cons_zero,List.set_cons_succ,i64_w]
        rfl
       refine pure_ (i:=20) (N:=some 37) (v:=?_) (a':=?_) (TF [21,11]) rfl rfl (by kernel_rfl) (fun _ _ _ h=>h) (Or.inl ⟨by rfl,?_⟩) ?_ ?_
       rotate_left
       ·intro w'
        go_simp
        with_reducible rfl
       rotate_left
       ·simp only [Act.put,List.setIfInBounds_toArray,List.set_cons_zero,List.set_cons_succ,i64_w]
        rfl
       refine pure_ (i:=22) (N:=some 39) (v:=?_) (a':=?_) (TF [21,1,1,9]) rfl rfl (by kernel_rfl) (fun _ _ _ h=>h) (Or.inl ⟨by rfl,?_⟩) ?_ ?_
       rotate_left
       ·intro w'
        go_simp
        with_reducible rfl
       rotate_left
       ·simp only [Act.put,List.setIfInBounds_toArray,List.set_cons_zero,List.set_cons_succ,i64_w]
        rfl
       refine pure_ (i:=23) (N:=some 40) (v:=?_) (a':=?_) (TF [21,1,2,8]) rfl rfl (by kernel_rfl) (fun _ _ _ h=>h) (Or.inl ⟨by rfl,?_⟩) ?_ ?_
       rotate_left
       ·intro w'
        go_simp
        with_reducible rfl
       rotate_left
       ·simp only [Act.put,List.setIfInBounds_toArray,List.set_cons_zero,List.set_cons_succ,i64_w]
        rfl
       refine pure_ (i:=24) (N:=some 41) (v:=?_) (a':=?_) (TF [21,1,3,7]) rfl rfl (by kernel_rfl) (fun _ _ _ h=>h) (Or.inl ⟨by rfl,?_⟩) ?_ ?_
       rotate_left
       ·intro w'
        go_simp
        with_reducible rfl
       rotate_left
       ·simp only [Act.put,List.setIfInBounds_toArray,List.set_cons_zero,List.set_cons_succ,i64_w]
        rfl
       refine pure_ (i:=26) (N:=some 43) (v:=?_) (a':=?_) (TF [21,1,3,1,1,5]) rfl rfl (by kernel_rfl) (fun _ _ _ h=>h) (Or.inl ⟨by rfl,?_⟩) ?_ ?_
       rotate_left
       ·intro w'
        go_simp
        with_reducible rfl
       rotate_left
       ·simp only [Act.put,List.setIfInBounds_toArray,List.set_cons_zero,List.set_cons_succ,i64_w]
        rfl
       refine take_ (i:=21) (N:=some 38) (v:=?_) (a':=?_) (TF [25,1,1,5]) rfl rfl (by kernel_rfl) (fun _ _ _ h=>h) (Or.inl ⟨by rfl,?_⟩) hHeld ?_ ?_
       rotate_left
       ·rintro w' ⟨s0,s1,s2,s3,s4⟩
        go_simp
        with_reducible rfl
       rotate_left
       ·simp only [Act.put,List.setIfInBounds_toArray,List.set_cons_zero,List.set_cons_succ,i64_w]
        rfl
       refine take_ (i:=25) (N:=some 42) (v:=?_) (a':=?_) (TF [27,5]) rfl rfl (by kernel_rfl) (fun _ _ _ h=>h) (Or.inl ⟨by rfl,?_⟩) hHeld ?_ ?_
       rotate_left
       ·rintro w' ⟨s0,s1,s2,s3,s4⟩
        go_simp
        with_reducible rfl
       rotate_left
       ·simp only [Act.put,List.setIfInBounds_toArray,List.set_cons_zero,List.set_cons_succ,i64_w]
        rfl
       refine pure_ (i:=27) (N:=some 44) (v:=?_) (a':=?_) (TF [28,4]) rfl rfl (by kernel_rfl) (fun _ _ _ h=>h) (Or.inl ⟨by rfl,?_⟩) ?_ ?_
       rotate_left
       ·intro w'
        go_simp
        with_reducible rfl
       rotate_left
       ·simp only [Act.put,List.setIfInBounds_toArray,List.set_cons_zero,List.set_cons_succ,i64_w]
        rfl
       refine pure_ (i:=28) (N:=some 45) (v:=?_) (a':=?_) (TF [29,3]) rfl rfl (by kernel_rfl) (fun _ _ _ h=>h) (Or.inl ⟨by rfl,?_⟩) ?_ ?_
       rotate_left
       ·intro w'
        go_simp
        with_reducible rfl
       rotate_left
       ·simp only [Act.put,List.setIfInBounds_toArray,List.set_cons_zero,List.set_cons_succ,i64_w]
        rfl
       refine take_ (i:=29) (N:=some 46) (v:=?_) (a':=?_) (TF [30,2]) rfl rfl (by kernel_rfl) (fun _ _ _ h=>h) (Or.inl ⟨by rfl,?_⟩) hHeld ?_ ?_
       rotate_left
       ·rintro w' ⟨s0,s1,s2,s3,s4⟩
        go_simp
        with_reducible rfl
       rotate_left
       ·simp only [Act.put,List.setIfInBounds_toArray,List.set_cons_zero,List.set_cons_succ,i64_w]
        rfl
       refine pure_ (i:=30) (N:=some 47) (v:=?_) (a':=?_) (TF [31,1]) rfl rfl (by kernel_rfl) (fun _ _ _ h=>h) (Or.inl ⟨by rfl,?_⟩) ?_ ?_
       rotate_left
       ·intro w'
        go_simp
        with_reducible rfl
       rotate_left
       ·simp only [Act.put,List.setIfInBounds_toArray,List.set_cons_zero,List.set_cons_succ,i64_w]
        rfl
       refine pure_ (i:=31) (N:=some 48) (v:=?_) (a':=?_) (TF [32]) rfl rfl (by kernel_rfl) (fun _ _ _ h=>h) (Or.inl ⟨by rfl,?_⟩) ?_ ?_
       rotate_left
       ·intro w'
        go_simp
        with_reducible rfl
       rotate_left
       ·simp only [Act.put,List.setIfInBounds_toArray,List.set_cons_zero,List.set_cons_succ,i64_w]
        rfl
       refine done_ (by kernel_rfl) ?_
       go_wp2
       go_roundg (l.length - k)
       case measure=>have:=HG.out.2;omega
       case rel=>exact ⟨k+1,by go_num,⟨by have:=HG.out;omega⟩,⟨fun j hj=>by
        by_cases hq:j=k
        ·subst hq;exact HWB.out
        ·exact HA.out j (by omega)⟩,⟨HF.out,HB.out⟩⟩
  ·have ltb:decide ((k:Int) < (l.length:Int))=false:=decide_eq_false (by omega)
   have ltc:decide (k < l.length)=false:=decide_eq_false hk
   have HO:=Aside0.mk (freeB_yes (l:=l) (dn:=dn) (i:=i) (fun j hj=>HA.out j (by omega)))
   go_wp2
   go_ret
   exact ⟨by rw [HO.out];rfl,HS.out.2⟩
end Go.Proofs.YthejnffhfmdpnaaDoor.Q

end

section
namespace Go.Proofs.YthejnffhfmdpnaaDoor.Q
open Go.RowKit Go.Proofs.YthejnffhfmdpnaaDoorW.PrintWords Go.Proofs.YthejnffhfmdpnaaDoorW.PrintLast Go.Proofs.YthejnffhfmdpnaaDoorW.PrintMore
set_option linter.unusedVariables false
set_option linter.unusedSimpArgs false
def kraw (n:Nat):Kd (List Value) where
 sz:=n
 E:=[]
 K _ x cs:=cs=x∧x.length=n∧ ∀u ∈ x,u.oneCell'=true
 M _ _ _ x cs:=cs=x∧x.length=n∧ ∀u ∈ x,u.oneCell'=true
 K_len h:=by rw [h.1];exact h.2.1
 K_one h:=by rw [h.1];exact h.2.2
 K_below _ h:=h
 K_of_M h:=h
 M_mono _ h:=h
 M_bound h:=h
 M_move _ h:=h
 M_lower _ h:=h
theorem raws_of {w:World} {A:Option Addr} {l:List S45} (h:Kd.C k45 w A l.length l): ∃raws:List (List Value),raws.length=l.length∧Kd.C (kraw 10) w A l.length raws∧ ∀(j:Nat) (p:S45),l[j]? =some p→ ∃c,raws[j]? =some c∧k45.K w p c:=by
 by_cases hn:0 < l.length
 ·obtain ⟨ad,e,hc⟩:=h.2.2 hn
  have H: ∀j:Fin l.length, ∃c:List Value,c.length=10∧k45.K w l[j] c∧ ∀i u,c[i]? =some u→w.cell? (ad.add (j*10+i))=some u:=fun j=>hc j _ (List.getElem?_eq_getElem j.2)
  refine ⟨List.ofFn (fun j=>Classical.choose (H j)),by simp,⟨by simp,h.2.1,fun _=>⟨ad,e,fun j p hj=>?_⟩⟩,fun j p hj=>?_⟩
  ·have hj2:j < l.length:=by
    have:=(List.getElem?_eq_some_iff.1 hj).1
    simpa using this
   rw [List.getElem?_eq_getElem (by simpa using hj2),List.getElem_ofFn] at hj
   obtain rfl:=Option.some.inj hj
   have S:=Classical.choose_spec (H ⟨j,hj2⟩)
   exact ⟨_,S.1,⟨rfl,S.1,fun u hu=>k45.K_one S.2.1 u hu⟩,S.2.2⟩
  ·have hj2:j < l.length:=(List.getElem?_eq_some_iff.1 hj).1
   rw [List.getElem?_eq_getElem hj2] at hj
   obtain rfl:=Option.some.inj hj
   exact ⟨_,by rw [List.getElem?_eq_getElem (by simpa using hj2),List.getElem_ofFn],(Classical.choose_spec (H ⟨j,hj2⟩)).2.1⟩
 ·obtain rfl:l= []:=List.length_eq_zero_iff.mp (by omega)
  exact ⟨[],rfl,⟨rfl,h.2.1,fun h=>absurd h (by decide)⟩,fun j p hj=>by simp at hj⟩
def Cloned (w:World) (n:Nat) (raws:List (List Value)) (e:Ending) (w':World):Prop:= ∃v cells,e= .returned v∧w'.ownsRow w.heap.size 45 10 v n cells∧(∀(j:Nat) (p:List Value),raws[j]? =some p→(cells.drop (j*10)).take 10=p)∧Below w.heap.size w w'
set_option maxHeartbeats 8000000 in
set_option maxRecDepth 100000 in
theorem clone_calls (A0:Option Addr) (c0:Nat) (raws:List (List Value)) (w:World) (hr0:Kd.C (kraw 10) w A0 raws.length raws) (hn:raws.length≤1000000000000):
  Calls Tryd.prog 53 #[.slice A0 raws.length c0] w (Cloned w raws.length raws):=by
 have HR0:=Aside0.mk hr0
 have HN:=Aside0.mk hn
 cases A0 with
 |none=>
  have hl:raws= []:=by
   by_cases hq:0 < raws.length
   ·obtain ⟨ad,e,_⟩:=hr0.2.2 hq
    exact absurd e (by simp)
   ·exact List.length_eq_zero_iff.mp (by omega)
  subst hl
  clear hr0 hn
  have hnil: ∀(w:World) (n:Nat),(binOp .eql 22 (.slice none n c0) (.slice none 0 0)).run Tryd.prog w= .ok (.bool true) w:=fun w n=>Lib.run_eql_slice_nil (P:=Tryd.prog) w 22 45 none n c0 0 0 Tryd.underlying22
  go_enter Tryd.func53,Tryd.ntmps53
  go_wp2
  go_ret
  exact ⟨_,[],rfl,World.ownsRow_nil _ _ _ _,fun j p hj=>by simp at hj,Below.refl _ _⟩
 |some ad=>
  clear hr0 hn
  have hnil: ∀(w:World) (n:Nat),(binOp .eql 22 (.slice (some ad) n c0) (.slice none 0 0)).run Tryd.prog w= .ok (.bool false) w:=fun w n=>Lib.run_eql_slice_nil (P:=Tryd.prog) w 22 45 (some ad) n c0 0 0 Tryd.underlying22
  go_enter Tryd.func53,Tryd.ntmps53
  go_wp2_with (first|((with_reducible refine gate_dst (N:=5) rfl ?_);refine Kd.R_lit (kraw 10) (w0:=w) w.heap.size 45 ?hg (N:=5) ?hd (xs:=([]:List (List Value))) (inner:=[]) (ok:=fun _=>True) (okp:=fun _=>True) ?hr ?hp (fun _ hk=>hk) trivial (Below.refl _ _) (Nat.le_refl _) (by simp) ?_;(case hd=>rfl);(case hg=>rfl);(case hr=>first|(go_simp;done)|(go_simp;rfl));(case hp=>exact Reps.none _ _);intro va W1 g0 hb hg_ hnew_;have HG:=Aside0.mk g0;have HB:=Aside0.mk hb;clear g0 hb hg_ hnew_)|((with_reducible refine gate_builtin (b:= .append) (xs:=#[.tmp 5, .tmp 6]) rfl ?_);at_builtin;refine Kd.R_append_rows (kraw 10) (w0:=w) w.heap.size rfl (.tmp 5) (.tmp 6) 22 45 (.agg #[(.int .i64 0),(.int .i64 0),(.int .i64 0),(.int .i64 0),(.slice none 0 0),(.int .i64 0),(.int .i64 0),(.int .i64 0),(.slice none 0 0),(.slice none 0 0)]) 128 rfl Tryd.underlying22 info45 rfl (show 0 < 10 by omega) (by omega) va [] raws (some ad) raws.length c0 (fun _=>True) (fun _=>False) rfl rfl HG.out (Kd.C_below HR0.out HB.out) (fun _ _ h=>h) (fun _ h=>h.elim) (fun _ _=>trivial) HB.out HB.out.size (by have:=HN.out;simp;omega) ?_;intro vb W2 ho hb hg hat;rw [List.nil_append] at ho;have HO:=Aside0.mk ho;have HB2:=Aside0.mk hb;clear ho hb hg hat))
  go_ret
  obtain ⟨cells,h1,h2⟩:=HO.out.2
  exact ⟨vb,cells,rfl,h1,fun j p hj=>(h2.2 j p hj).1,HB2.out⟩
def strip (x:S45):S45:=⟨x.f0,x.f1,x.f2,⟨x.f3.f0,x.f3.f1,x.f3.f2,x.f3.f3,[]⟩⟩
theorem strip_K {w:World} {x:S45} {c:List Value} (h:k45.K w x c):k45.K w (strip x) (c.set 9 (.slice none 0 0)):=by
 obtain ⟨A4,c4,A8,c8,A9,c9,rfl,l4,g4,l8,g8,l9,g9⟩:=k45_open h
 exact k45_mk w (strip x) l4 g4 l8 g8 (A9:=none) (c9:=0) (Nat.le_refl _) ⟨rfl,(show 0≤9223372036854775807 by decide),fun h=>absurd h (show ¬0 < 0 by decide)⟩
theorem own_slice {w:World} {base e size n:Nat} {v:Value} {xs:List Value} (h:w.ownsRow base e size v n xs): ∃A c,v= .slice A n c∧n≤c:=by
 rcases h.2 with ⟨rfl,rfl⟩|⟨g,cap,cur,rfl,_,_,hc,_⟩
 ·exact ⟨none,0,rfl,Nat.le_refl _⟩
 ·exact ⟨_,_,rfl,hc⟩
theorem own_head {w:World} {base e size n c:Nat} {A:Option Addr} {xs:List Value} (h:w.ownsRow base e size (.slice A n c) n xs) (hn:0 < n): ∃g,A=some ⟨g,0,none⟩∧base≤g:=by
 rcases h.2 with ⟨_,h2⟩|⟨g,cap,cur,h1,hb,_⟩
 ·omega
 ·injection h1 with h1 _ _
  exact ⟨g,h1,hb⟩
theorem addz (g m:Nat):(⟨g,0,none⟩:Addr).add m=⟨g,m,none⟩:=by unfold Addr.add;split<;>simp_all
def Gone (raws:List (List Value)) (i:Nat) (xs:List Value):Prop:= ∀(j:Nat) (p:List Value),raws[j]? =some p→ ∀(m:Nat) (u:Value),m < 10→p[m]? =some u→xs[j*10+m]? =if j < i∧m=9 then some (.slice none 0 0) else some u
theorem Gone.next {raws:List (List Value)} {i:Nat} {xs:List Value} (h:Gone raws i xs) (hl:i*10+9 < xs.length):Gone raws (i+1) (xs.set (i*10+9) (.slice none 0 0)):=by
 intro j p hj m u hm hu
 have:=h j p hj m u hm hu
 rw [List.getElem?_set]
 by_cases hq:i*10+9=j*10+m
 ·have h1:j=i:=by omega
  have h2:m=9:=by omega
  rw [if_pos hq,if_pos hl,if_pos ⟨by omega,h2⟩]
 ·rw [if_neg hq,this]
  by_cases h1:j < i∧m=9
  ·rw [if_pos h1,if_pos ⟨by omega,h1.2⟩]
  ·rw [if_neg h1,if_neg (by omega)]
def FreeRel (w:World) (A:Option Addr) (c n:Nat) (raws:List (List Value)) (i:Nat) (wr:World):Prop:= ∃xs,wr.ownsRow w.heap.size 45 10 (.slice A n c) n xs∧Gone raws i xs∧Below w.heap.size w wr
def CRow (w0 W:World) (v:Value) (l:List S45):Prop:= ∃raws:List (List Value),raws.length=l.length∧(kraw 10).R 45 W w0.heap.size (fun _=>True) v raws∧ ∀(j:Nat) (p:S45),l[j]? =some p→ ∃c,raws[j]? =some c∧k45.K w0 p c
theorem CRow.C {w0 W:World} {A:Option Addr} {n c:Nat} {l:List S45} (h:CRow w0 W (.slice A n c) l) (hb:Below w0.heap.size w0 W):n=l.length∧n≤c∧Kd.C k45 W A l.length l:=by
 obtain ⟨raws,hl,hR,hK⟩:=h
 obtain ⟨h1,h2,h3⟩:=Kd.R_reads' hR
 rw [hl] at h1 h3
 refine ⟨h1,h2,rfl,h3.2.1,fun hn=>?_⟩
 obtain ⟨ad,e,hc⟩:=h3.2.2 hn
 refine ⟨ad,e,fun j p hj=>?_⟩
 obtain ⟨cs,hr,hk⟩:=hK j p hj
 obtain ⟨cs',hlen,⟨he,_⟩,hcell⟩:=hc j cs hr
 subst he
 exact ⟨cs',hlen,k45.K_below hb hk,hcell⟩
theorem CRow.map_ {w0 W W1:World} {v:Value} {l:List S45} (h:CRow w0 W v l) (f: ∀raws,(kraw 10).R 45 W w0.heap.size (fun _=>True) v raws→(kraw 10).R 45 W1 w0.heap.size (fun _=>True) v raws):CRow w0 W1 v l:=by
 obtain ⟨raws,hl,hR,hK⟩:=h
 exact ⟨raws,hl,f raws hR,hK⟩
theorem CRow.below {w0 W W1:World} {v:Value} {l:List S45} (h:CRow w0 W v l) (hb:Below W.heap.size W W1):CRow w0 W1 v l:=h.map_ (fun _ hR=>Kd.R_below hR hb)
theorem CRow.set {w0 W:World} {v:Value} {l:List S45} (h:CRow w0 W v l) {g t:Nat} {cells:Array Value} (hb:W.heap[g]? =some (.cells cells t (0,0))) (ht:t≠45) (j:Nat) (u:Value):CRow w0 (W.setCell ⟨g,j,none⟩ u) v l:=
 h.map_ (fun _ hR=>Kd.R_set hR hb (fun q hq=>by
  have:q=45:=by simpa [kraw] using hq
  omega) j u)
def FreePost (w0 w:World) (n:Nat) (l:List S45) (e:Ending) (w':World):Prop:= ∃A c,e= .returned (.slice A n c)∧n≤c∧CRow w0 w' (.slice A n c) l∧Below w.heap.size w w'
theorem FreeRel.done {w0 w wr:World} (hle:w0.heap.size≤w.heap.size) {A:Option Addr} {c:Nat} {raws:List (List Value)} {l:List S45} (hl:raws.length=l.length) (hm:l.length≤9223372036854775807) (hK: ∀(j:Nat) (p:S45),l[j]? =some p→ ∃c,raws[j]? =some c∧k45.K w0 p c) (h:FreeRel w A c l.length raws l.length wr):CRow w0 wr (.slice A l.length c) (l.map strip):=by
 obtain ⟨xs,ho,hg,hb⟩:=h
 have hxl:=ho.1
 refine ⟨raws.map (fun c=>c.set 9 (.slice none 0 0)),by simp [hl],Kd.R_lower (d:=kraw 10) (e:=45) (w:=wr) (base:=w.heap.size) (base':=w0.heap.size) ⟨fun _ _=>trivial,xs,by rw [List.length_map,hl];exact ho,by rw [List.length_map,hl];exact hxl,fun j p hj=>?_⟩ hle,fun j p hj=>?_⟩
 ·rw [List.getElem?_map,Option.map_eq_some_iff] at hj
  obtain ⟨cs,hr,rfl⟩:=hj
  have hjl:j < l.length:=by
   have:=(List.getElem?_eq_some_iff.1 hr).1
   omega
  obtain ⟨cs',hr',hk⟩:=hK j l[j] (List.getElem?_eq_getElem hjl)
  rw [hr] at hr'
  obtain rfl:=Option.some.inj hr'
  have hlen:cs.length=10:=k45.K_len hk
  refine ⟨?_,by rw [List.length_set,hlen],fun u hu=>?_⟩
  ·apply List.ext_getElem?
   intro m
   rw [List.getElem?_take,List.getElem?_set]
   by_cases hm:m < 10
   ·rw [if_pos (show m < (kraw 10).sz from hm),List.getElem?_drop]
    have hc:cs[m]? =some cs[m]:=List.getElem?_eq_getElem (by omega)
    rw [show (kraw 10).sz=10 from rfl,hg j cs hr m _ hm hc]
    by_cases h9:m=9
    ·subst h9
     rw [if_pos ⟨hjl,rfl⟩,if_pos rfl,if_pos (by omega)]
    ·rw [if_neg (by omega),if_neg (by omega),hc]
   ·rw [if_neg (show ¬m < (kraw 10).sz from hm),if_neg (by omega),List.getElem?_eq_none (by omega)]
  ·rcases List.mem_or_eq_of_mem_set hu with h|rfl
   ·exact k45.K_one hk u h
   ·rfl
 ·rw [List.getElem?_map,Option.map_eq_some_iff] at hj
  obtain ⟨x,hx,rfl⟩:=hj
  obtain ⟨cs,hr,hk⟩:=hK j x hx
  exact ⟨_,by rw [List.getElem?_map,hr];rfl,strip_K hk⟩
set_option maxHeartbeats 8000000 in
set_option maxRecDepth 100000 in
theorem efree_calls (A0:Option Addr) (c0:Nat) (l:List S45) (w0 w:World) (hr0:Kd.C k45 w0 A0 l.length l) (hb0:Below w0.heap.size w0 w) (hn:l.length≤1000000000000):
  Calls Tryd.prog 36 #[.slice A0 l.length c0] w (FreePost w0 w l.length (l.map strip)):=by
 obtain ⟨raws,hl,hC,hK⟩:=raws_of hr0
 replace hC:=Kd.C_below hC hb0
 have HLe:=Aside0.mk hb0.size
 rw [← hl] at hC
 have HC:=Aside0.mk (clone_calls A0 c0 raws w hC (by omega))
 rw [hl] at HC
 have HK:=Aside0.mk hK
 have HL:=Aside0.mk hl
 have HM:=Aside0.mk hr0.2.1
 have HN2:=Aside0.mk hn
 clear hr0 hC hK hl hn hb0
 go_enter Tryd.func36,Tryd.ntmps36
 go_wp2_with (first|(go_at_call 53;(with_reducible refine HC.out.mono ?_);rintro e w1 ⟨v,cells,rfl,ho,hs,hb⟩;obtain ⟨A,c,rfl,hc⟩:=own_slice ho;have HO:=Aside0.mk ho;have HS:=Aside0.mk hs;have HB:=Aside0.mk hb;have HCc:=Aside0.mk hc;clear ho hs hb hc))
 have hlm:=HN2.out
 have HS0:=Aside0.mk (show FreeRel w A c l.length raws 0 w1 from ⟨cells,HO.out,fun j p hj m u hm hu=>by
  rw [if_neg (by omega), ← hu, ← HS.out j p hj,List.getElem?_take,if_pos hm,List.getElem?_drop],HB.out⟩)
 clear HO HS HB
 go_loopg [9] (l.length+1) (fun gq v9 wr=> ∃i:Nat,v9= .int .i64 i∧Aside0 (i≤l.length∧gq+i=l.length+1)∧Aside0 (FreeRel w A c l.length raws i wr))
 case atStart=>exact ⟨0,rfl,⟨by omega⟩,HS0⟩
 case round=>
  clear HS0
  obtain ⟨i,rfl,HG,HR⟩:=hrel
  by_cases hlt:i < l.length
  ·have ltb:decide ((i:Int) < (l.length:Int))=true:=decide_eq_true (by omega)
   have ltc:decide (i < l.length)=true:=decide_eq_true hlt
   obtain ⟨xs,ho,hg,hb⟩:=HR.out
   obtain ⟨g,rfl,hge⟩:=own_head ho (by omega)
   have hxl:=ho.1
   obtain ⟨u9,y9⟩: ∃u,wr.cell? ⟨g,i*10+9,none⟩=some u:=⟨_,(ho.cellAt (i*10+9) (by omega)).trans (List.getElem?_eq_getElem (by omega))⟩
   have f9:=ho.frozenAt (i*10+9)
   have p200:=eq_true (show (0:Int)≤(i:Int) by omega)
   have q200:=eq_true (show (i:Int) < (l.length:Int) by omega)
   have HR1:=Aside0.mk (show FreeRel w (some ⟨g,0,none⟩) c l.length raws (i+1) (wr.setCell ⟨g,i*10+9,none⟩ (.slice none 0 0)) from ⟨_,(ho.stored (i*10+9) (.slice none 0 0)).1,hg.next (by omega),hb.setCell hge _⟩)
   clear ho hg hb hge hxl
   go_wp2
   go_roundg (l.length - i)
   case measure=>have:=HG.out.2;omega
   case rel=>exact ⟨i+1,by go_num,⟨by have:=HG.out;omega⟩,HR1⟩
  ·have ltb:decide ((i:Int) < (l.length:Int))=false:=decide_eq_false (by omega)
   have ltc:decide (i < l.length)=false:=decide_eq_false hlt
   have hi:i=l.length:=by have:=HG.out.1;omega
   subst hi
   have HP:=Aside0.mk (HR.out.done HLe.out HL.out HM.out HK.out)
   have HBB:=Aside0.mk (show Below w.heap.size w wr from HR.out.elim fun _ h=>h.2.2)
   go_wp2
   go_ret
   exact ⟨A,c,rfl,HCc.out,HP.out,HBB.out⟩
end Go.Proofs.YthejnffhfmdpnaaDoor.Q

end

section
namespace Go.Proofs.YthejnffhfmdpnaaDoor.Q
open Go.RowKit Go.Proofs.YthejnffhfmdpnaaDoorW.PrintWords Go.Proofs.YthejnffhfmdpnaaDoorW.PrintLast Go.Proofs.YthejnffhfmdpnaaDoorW.PrintMore
set_option linter.unusedVariables false
set_option linter.unusedSimpArgs false
def Fnd (wB:World) (g:Nat) (A0:Option Addr) (c0:Nat) (l:List S45) (v1:Value) (dn:List Bool) (left:Int) (v3:Value) (od:List Int) (W:World):Prop:=
 W.heap[g]? =some (.cells #[.slice A0 l.length c0,v1, .int .i64 left,v3] 76 (0,0))∧CRow wB W (.slice A0 l.length c0) l∧l.length≤c0∧Below wB.heap.size wB W∧wB.heap.size≤g∧Kd.R Kd.bool 4 W wB.heap.size (fun _=>True) v1 dn∧Kd.R (Kd.int .i64) 3 W wB.heap.size (fun _=>True) v3 od∧dn.length=l.length
section
variable {wB W W1:World} {g:Nat} {A0:Option Addr} {c0:Nat} {l:List S45} {v1:Value} {dn:List Bool} {left:Int} {v3:Value} {od:List Int}
theorem Fnd.below (h:Fnd wB g A0 c0 l v1 dn left v3 od W) (hb:Below W.heap.size W W1):Fnd wB g A0 c0 l v1 dn left v3 od W1:=
 ⟨blk_below h.1 hb,h.2.1.below hb,h.2.2.1,below_step h.2.2.2.1 hb,h.2.2.2.2.1,Kd.R_below h.2.2.2.2.2.1 hb,Kd.R_below h.2.2.2.2.2.2.1 hb,h.2.2.2.2.2.2.2⟩
theorem Fnd.fst {A1:Option Addr} {n c1:Nat} (h:Fnd wB g A0 c0 l (.slice A1 n c1) dn left v3 od W):Fst g A0 c0 l A1 c1 dn left v3 W:=by
 obtain ⟨hn,hc,hC⟩:=Kd.R_reads' h.2.2.2.2.2.1
 exact ⟨hn ▸ h.1,(h.2.1.C h.2.2.2.1).2.2,h.2.2.1,hC,hn ▸ hc⟩
theorem Fnd.max (h:Fnd wB g A0 c0 l v1 dn left v3 od W):l.length≤9223372036854775807:=(h.2.1.C h.2.2.2.1).2.2.2.1
theorem Fnd.cells (h:Fnd wB g A0 c0 l v1 dn left v3 od W):W.cell? ⟨g,0,none⟩=some (.slice A0 l.length c0)∧W.cell? ⟨g,1,none⟩=some v1∧W.cell? ⟨g,2,none⟩=some (.int .i64 left)∧W.cell? ⟨g,3,none⟩=some v3:=
 ⟨(blk_cell h.1 0).trans rfl,(blk_cell h.1 1).trans rfl,(blk_cell h.1 2).trans rfl,(blk_cell h.1 3).trans rfl⟩
def FS (g:Nat) (v1 v3:Value) (k:Nat):Prop:=k=g∨some k=v1.ownBlock∨some k=v3.ownBlock
theorem Fnd.not_S (h:Fnd wB g A0 c0 l v1 dn left v3 od W) {k t:Nat} {c:Array Value} (hk:W.heap[k]? =some (.cells c t (0,0))) (h1:t≠76) (h2:t≠4) (h3:t≠3): ¬FS g v1 v3 k:=by
 rintro (rfl|hq|hq)
 ·rw [h.1] at hk
  injection hk with hk
  injection hk with _ hk
  exact h1 hk.symm
 ·exact Kd.R_ne h.2.2.2.2.2.1 hk (fun e=>h2 e.symm) hq
 ·exact Kd.R_ne h.2.2.2.2.2.2.1 hk (fun e=>h3 e.symm) hq
theorem Fnd.keep_row (h:Fnd wB g A0 c0 l v1 dn left v3 od W) {α:Type} {d:Kd α} {e base:Nat} {ok:Nat→Prop} {v:Value} {xs:List α} (hR:d.R e W base ok v xs) (ht: ∀q,q ∈ e::d.E→q≠76∧q≠4∧q≠3) (hK:Kept W W1 (FS g v1 v3)):d.R e W1 base ok v xs:=by
 refine Kd.R_mono (Kd.R_step (Kd.R_bound hR) (fun k hk hlt=>?_)) (fun k hk=>hk.1)
 obtain ⟨_,_,_,q,hq,cells,hc⟩:=hk
 obtain ⟨a,b,c⟩:=ht q hq
 exact hK.2 k hlt (h.not_S hc a b c)
def Bs (L:List (Nat × Array Value × Nat)) (W:World):Prop:= ∀b c t,(b,c,t) ∈ L→W.heap[b]? =some (.cells c t (0,0))∧t≠76∧t≠4∧t≠3
theorem Bs.below {L:List (Nat × Array Value × Nat)} (h:Bs L W) (hb:Below W.heap.size W W1):Bs L W1:=fun b c t hm=>⟨blk_below (h b c t hm).1 hb,(h b c t hm).2⟩
theorem Bs.kept {L:List (Nat × Array Value × Nat)} (h:Bs L W) (hF:Fnd wB g A0 c0 l v1 dn left v3 od W) (hK:Kept W W1 (FS g v1 v3)):Bs L W1:=fun b c t hm=>by
 obtain ⟨h1,h2,h3,h4⟩:=h b c t hm
 exact ⟨(hK.2 b (blk_lt h1) (hF.not_S h1 h2 h3 h4)).trans h1,h2,h3,h4⟩
theorem Bs.nil (W:World):Bs [] W:=fun b c t hm=>by simp at hm
theorem Bs.cons {L:List (Nat × Array Value × Nat)} (h:Bs L W) (c:Array Value) (t:Nat) (h1:t≠76) (h2:t≠4) (h3:t≠3):Bs ((W.heap.size,c,t)::L) (W.alloc (.cells c t)):=fun b c' t' hm=>by
 rcases List.mem_cons.1 hm with he|hm
 ·obtain ⟨rfl,rfl,rfl⟩:=he
  exact ⟨blk_new W _,h1,h2,h3⟩
 ·exact ⟨blk_alloc (h b c' t' hm).1 _,(h b c' t' hm).2⟩
theorem Bs.cons2 {L:List (Nat × Array Value × Nat)} (h:Bs L W) (b:Nat) (hb:b=W.heap.size) (c:Array Value) (t:Nat) (h1:t≠76) (h2:t≠4) (h3:t≠3):Bs ((b,c,t)::L) (W.alloc (.cells c t)):=hb ▸ h.cons c t h1 h2 h3
theorem below_grown {W W1:World} (hg:W.grownBy W1 none):Below W.heap.size W W1:=⟨hg.os,hg.tape,hg.output,hg.size,fun k hk=>hg.block k hk (by simp)⟩
theorem grown_refl (W:World) (row:Option Nat):W.grownBy W row:=⟨rfl,rfl,rfl,Nat.le_refl _,fun _ _ _=>rfl⟩
theorem Bs.tail {L:List (Nat × Array Value × Nat)} {x:Nat × Array Value × Nat} (h:Bs (x::L) W):Bs L W:=fun b c t hm=>h b c t (List.mem_cons_of_mem _ hm)
theorem Bs.head {L:List (Nat × Array Value × Nat)} {b t:Nat} {c:Array Value} (h:Bs ((b,c,t)::L) W):W.heap[b]? =some (.cells c t (0,0)):=(h b c t List.mem_cons_self).1
theorem Fnd.setLeft (h:Fnd wB g A0 c0 l v1 dn left v3 od W) (n:Int):Fnd wB g A0 c0 l v1 dn n v3 od (W.setCell ⟨g,2,none⟩ (.int .i64 n)):=
 ⟨blk_put h.1 2 _ rfl,h.2.1.set h.1 (by decide) 2 _,h.2.2.1,below_set h.2.2.2.1 h.2.2.2.2.1,h.2.2.2.2.1,Kd.R_set h.2.2.2.2.2.1 h.1 (by decide) 2 _,Kd.R_set h.2.2.2.2.2.2.1 h.1 (by decide) 2 _,h.2.2.2.2.2.2.2⟩
theorem Fnd.head {A1:Option Addr} {n c1:Nat} (h:Fnd wB g A0 c0 l (.slice A1 n c1) dn left v3 od W) (hn:0 < l.length): ∃gd,A1=some ⟨gd,0,none⟩∧wB.heap.size≤gd:=by
 obtain ⟨inner,ho⟩:=Kd.R_own h.2.2.2.2.2.1
 rcases ho.2 with ⟨_,h2⟩|⟨gd,cap,cur,h1,hb,_⟩
 ·have:=h.2.2.2.2.2.2.2
  omega
 ·injection h1 with h1 _ _
  exact ⟨gd,h1,hb⟩
theorem Fnd.setDone {gd n c1:Nat} (h:Fnd wB g A0 c0 l (.slice (some ⟨gd,0,none⟩) n c1) dn left v3 od W) (i:Nat) (b:Bool) (hb:wB.heap.size≤gd):Fnd wB g A0 c0 l (.slice (some ⟨gd,0,none⟩) n c1) (dn.set i b) left v3 od (W.setCell ⟨gd,i,none⟩ (.bool b)):=by
 have hd:=Kd.R_putg (enc:=Value.bool) (h1:=fun _=>rfl) h.2.2.2.2.2.1 (i:Int) b
 rw [Int.toNat_natCast] at hd
 have hne:g≠gd:=fun e=>Kd.R_ne h.2.2.2.2.2.1 h.1 (by decide) (by rw [e];rfl)
 suffices hs:CRow wB (W.setCell ⟨gd,i,none⟩ (.bool b)) (.slice A0 l.length c0) l∧Kd.R (Kd.int .i64) 3 (W.setCell ⟨gd,i,none⟩ (.bool b)) wB.heap.size (fun _=>True) v3 od from ⟨blk_far h.1 hne _,hs.1,h.2.2.1,below_set h.2.2.2.1 hb,h.2.2.2.2.1,hd.1,hs.2,by rw [List.length_set];exact h.2.2.2.2.2.2.2⟩
 obtain ⟨inner,ho⟩:=Kd.R_own h.2.2.2.2.2.1
 rcases ho.2 with ⟨h2,_⟩|⟨gd',cap,cur,h1,_,hc,_⟩
 ·injection h2 with h2 _ _;exact absurd h2 (by simp)
 ·injection h1 with h1 _ _
  injection h1 with h1
  injection h1 with h1
  subst h1
  exact ⟨h.2.1.set hc (by decide) i _,Kd.R_set h.2.2.2.2.2.2.1 hc (by decide) i _⟩
theorem Fnd.setOrd (h:Fnd wB g A0 c0 l v1 dn left v3 od W) {v3':Value} {od':List Int} (hg:W.grownBy W1 v3.ownBlock) (hb:Below wB.heap.size wB W1) (ho:Kd.R (Kd.int .i64) 3 W1 wB.heap.size (fun _=>True) v3' od'):Fnd wB g A0 c0 l v1 dn left v3' od' (W1.setCell ⟨g,3,none⟩ v3'):=by
 have h1:=blk_grown h.1 hg (Kd.R_ne h.2.2.2.2.2.2.1 h.1 (by decide))
 have hC:CRow wB W1 (.slice A0 l.length c0) l:=h.2.1.map_ (fun raws hR=>by
  refine Kd.R_mono (Kd.R_step (Kd.R_bound hR) (fun k hk hlt=>?_)) (fun k hk=>hk.1)
  obtain ⟨_,_,_,q,hq,cells,hc⟩:=hk
  have hq4:q=45:=by simpa [kraw] using hq
  subst hq4
  exact hg.block k hlt (Kd.R_ne h.2.2.2.2.2.2.1 hc (by decide)))
 refine ⟨blk_put h1 3 _ rfl,hC.set h1 (by decide) 3 _,h.2.2.1,below_set hb h.2.2.2.2.1,h.2.2.2.2.1,Kd.R_set ?_ h1 (by decide) 3 _,Kd.R_set ho h1 (by decide) 3 _,h.2.2.2.2.2.2.2⟩
 refine Kd.R_mono (Kd.R_step (Kd.R_bound h.2.2.2.2.2.1) (fun k hk hlt=>?_)) (fun k hk=>hk.1)
 obtain ⟨_,_,_,q,hq,cells,hc⟩:=hk
 have hq4:q=4:=by simpa [Kd.bool,Kd.scalar] using hq
 subst hq4
 exact hg.block k hlt (Kd.R_ne h.2.2.2.2.2.2.1 hc (by decide))
end
end Go.Proofs.YthejnffhfmdpnaaDoor.Q

end

section
namespace Go.Proofs.YthejnffhfmdpnaaDoor.Q
open Go.RowKit Go.Proofs.YthejnffhfmdpnaaDoorW.PrintWords Go.Proofs.YthejnffhfmdpnaaDoorW.PrintLast Go.Proofs.YthejnffhfmdpnaaDoorW.PrintMore
attribute [local go_sem] min2_int min_two
set_option linter.unusedVariables false
set_option linter.unusedSimpArgs false
attribute [local go_sem high] eqA66
def api_File.l0:Nat→List (S66)→List (S66)→Int→Int→Option (Bool)
 |0,_,_,_,_=>none
 |k+1,x0,x1,x12,x13=>if x13 < x12 then (if 0≤x13 then (if x13 < (x0.length:Int) then (if x13 < (x1.length:Int) then (if (!((((rd_T66 x0 x13).f0).toList) == (((rd_T66 x1 x13).f0).toList)) || (!(((rd_T66 x0 x13).f1) == ((rd_T66 x1 x13).f1)) || (!((((rd_T66 x0 x13).f2).toList) == (((rd_T66 x1 x13).f2).toList)))))=true then (some false) else (api_File.l0 k x0 x1 x12 (wrap64 (x13+1)))) else (none)) else (none)) else (none)) else (some true)
def api_File.f (k:Nat) (l0:List (S66)) (l1:List (S66)):Option (Bool):=if (l0.length:Int)=(l1.length:Int) then (api_File.l0 k l0 l1 (l0.length:Int) 0) else (some false)
set_option maxHeartbeats 8000000 in
set_option maxRecDepth 100000 in
theorem api_File.calls (k:Nat) (A0:Option Addr) (c0:Nat) (l0:List (S66)) (A1:Option Addr) (c1:Nat) (l1:List (S66)) (r:Bool) (w:World) (hr0:Kd.C k66 w A0 l0.length l0) (hc0:l0.length≤c0) (hr1:Kd.C k66 w A1 l1.length l1) (hc1:l1.length≤c1) (h:api_File.f k l0 l1=some r):
  Calls Tryd.prog 56 #[.slice A0 l0.length c0, .slice A1 l1.length c1] w fun e w'=>e= .returned (.bool r)∧Drawn0 w w':=by
 have hu66:=Tryd.underlying66
 have HR0:=Aside0.mk hr0
 have HC0:=Aside0.mk hc0
 clear hr0 hc0
 have HR1:=Aside0.mk hr1
 have HC1:=Aside0.mk hc1
 clear hr1 hc1
 have H:(if (l0.length:Int)=(l1.length:Int) then (api_File.l0 k l0 l1 (l0.length:Int) 0) else (some false))=some r:=h
 clear h
 by_cases c3:(l0.length:Int)=(l1.length:Int)
 ·rw [if_pos c3] at H
  have c3b0:((l0.length:Int) == (l1.length:Int))=true:=beq_iff_eq.mpr c3
  have c3b1:((l0.length:Int) != (l1.length:Int))=false:=bne_eq_false_iff_eq.mpr c3
  have c3b2:(l0.length == l1.length)=true:=by first|simpa using c3|(simp at c3 ⊢;omega)
  clear c3
  have H':=Aside0.mk H
  clear H
  go_enter Tryd.func56,Tryd.ntmps56
  go_wp2
  repeat (go_quiet (fail);try go_wp2)
  go_loopg [13] k (fun kq v13 w'=> ∃(x13_1:Int),v13= .int .i64 x13_1∧Aside0 (api_File.l0 kq l0 l1 (l0.length:Int) x13_1=some r)∧Aside0 (kq≤k)∧Drawn0 w w')
  case atStart=>exact ⟨(0),(by first|rfl|(simp;done)|(simp [*];done)),H',⟨Nat.le_refl _⟩,by repeat (first|exact Drawn0.refl _|apply Drawn0.step)⟩
  case round=>
   clear H'
   obtain ⟨x13_1,rfl,HA,HK1,⟨m1,rfl⟩⟩:=hrel
   cases gk with
   |zero=>exact absurd HA.out (by simp [api_File.l0])
   |succ k1=>
    have H:=HA.out
    clear HA
    simp only [api_File.l0] at H
    by_cases c4:x13_1 < (l0.length:Int)
    ·rw [if_pos c4] at H
     have c4b0:decide (x13_1 < (l0.length:Int))=true:=decide_eq_true c4
     clear c4
     by_cases c5:0≤x13_1
     ·rw [if_pos c5] at H
      have c5b0:decide (0≤x13_1)=true:=decide_eq_true c5
      clear c5
      by_cases c6:x13_1 < (l0.length:Int)
      ·rw [if_pos c6] at H
       have c6b0:decide (x13_1 < (l0.length:Int))=true:=decide_eq_true c6
       clear c6
       by_cases c7:x13_1 < (l1.length:Int)
       ·rw [if_pos c7] at H
        have c7b0:decide (x13_1 < (l1.length:Int))=true:=decide_eq_true c7
        clear c7
        by_cases c8:(!((((rd_T66 l0 x13_1).f0).toList) == (((rd_T66 l1 x13_1).f0).toList)) || (!(((rd_T66 l0 x13_1).f1) == ((rd_T66 l1 x13_1).f1)) || (!((((rd_T66 l0 x13_1).f2).toList) == (((rd_T66 l1 x13_1).f2).toList)))))=true
        ·rw [if_pos c8] at H
         have c8b0:(!((((rd_T66 l0 x13_1).f0).toList) == (((rd_T66 l1 x13_1).f0).toList)) || (!(((rd_T66 l0 x13_1).f1) == ((rd_T66 l1 x13_1).f1)) || (!((((rd_T66 l0 x13_1).f2).toList) == (((rd_T66 l1 x13_1).f2).toList)))))=true:=c8
         clear c8
         obtain rfl:=Option.some.inj H
         have p170:0≤(x13_1:Int):=of_decide_eq_true (by assumption)
         have q170:x13_1 < (l0.length:Int):=of_decide_eq_true (by assumption)
         obtain ⟨ad170,e170,hx170_0,hx170_1,hx170_2⟩:=at_T66 HR0.out x13_1 p170 q170
         cases e170
         replace p170:=eq_true p170
         replace q170:=eq_true q170
         have p171:0≤(x13_1:Int):=of_decide_eq_true (by assumption)
         have q171:x13_1 < (l1.length:Int):=of_decide_eq_true (by assumption)
         obtain ⟨ad171,e171,hx171_0,hx171_1,hx171_2⟩:=at_T66 HR1.out x13_1 p171 q171
         cases e171
         replace p171:=eq_true p171
         replace q171:=eq_true q171
         go_wp2
         repeat (go_quiet (fail);try go_wp2)
         go_ret
         exact ⟨by first|rfl|(simp;done)|(simp [*];done),by repeat (first|exact Drawn0.refl _|apply Drawn0.step)⟩
        ·rw [if_neg c8] at H
         have c8b0:(!((((rd_T66 l0 x13_1).f0).toList) == (((rd_T66 l1 x13_1).f0).toList)) || (!(((rd_T66 l0 x13_1).f1) == ((rd_T66 l1 x13_1).f1)) || (!((((rd_T66 l0 x13_1).f2).toList) == (((rd_T66 l1 x13_1).f2).toList)))))=false:=by simpa using c8
         clear c8
         have H':=Aside0.mk H
         clear H
         have p170:0≤(x13_1:Int):=of_decide_eq_true (by assumption)
         have q170:x13_1 < (l0.length:Int):=of_decide_eq_true (by assumption)
         obtain ⟨ad170,e170,hx170_0,hx170_1,hx170_2⟩:=at_T66 HR0.out x13_1 p170 q170
         cases e170
         replace p170:=eq_true p170
         replace q170:=eq_true q170
         have p171:0≤(x13_1:Int):=of_decide_eq_true (by assumption)
         have q171:x13_1 < (l1.length:Int):=of_decide_eq_true (by assumption)
         obtain ⟨ad171,e171,hx171_0,hx171_1,hx171_2⟩:=at_T66 HR1.out x13_1 p171 q171
         cases e171
         replace p171:=eq_true p171
         replace q171:=eq_true q171
         go_wp2
         repeat (go_quiet (fail);try go_wp2)
         go_roundg k1
         case measure=>have:=HK1.out;omega
         case rel=>exact ⟨(wrap64 (x13_1+1)),(by first|rfl|(simp;done)|(simp [*];done)),H',⟨by have:=HK1.out;omega⟩,by repeat (first|exact Drawn0.refl _|apply Drawn0.step)⟩
       ·rw [if_neg c7] at H
        exact absurd H (by simp)
      ·rw [if_neg c6] at H
       exact absurd H (by simp)
     ·rw [if_neg c5] at H
      exact absurd H (by simp)
    ·rw [if_neg c4] at H
     have c4b0:decide (x13_1 < (l0.length:Int))=false:=decide_eq_false c4
     clear c4
     obtain rfl:=Option.some.inj H
     go_wp2
     repeat (go_quiet (fail);try go_wp2)
     go_ret
     exact ⟨by first|rfl|(simp;done)|(simp [*];done),by repeat (first|exact Drawn0.refl _|apply Drawn0.step)⟩
 ·rw [if_neg c3] at H
  have c3b0:((l0.length:Int) == (l1.length:Int))=false:=beq_eq_false_iff_ne.mpr c3
  have c3b1:((l0.length:Int) != (l1.length:Int))=true:=bne_iff_ne.mpr c3
  have c3b2:(l0.length == l1.length)=false:=by first|simpa using c3|(simp at c3 ⊢;omega)
  obtain rfl:=Option.some.inj H
  go_enter Tryd.func56,Tryd.ntmps56
  go_wp2
  repeat (go_quiet (fail);try go_wp2)
  go_ret
  exact ⟨by first|rfl|(simp;done)|(simp [*];done),by repeat (first|exact Drawn0.refl _|apply Drawn0.step)⟩
end Go.Proofs.YthejnffhfmdpnaaDoor.Q

end

section
namespace Go.Proofs.YthejnffhfmdpnaaDoor.Q
open Go.RowKit Go.Proofs.YthejnffhfmdpnaaDoorW.PrintWords Go.Proofs.YthejnffhfmdpnaaDoorW.PrintLast Go.Proofs.YthejnffhfmdpnaaDoorW.PrintMore
attribute [local go_sem] min2_int min_two
set_option linter.unusedVariables false
set_option linter.unusedSimpArgs false
def speech_same.f (k:Nat) (a0_0:Int) (a0_1:Int) (a0_2:Int) (l0_3:List (S66)) (l0_4:List ByteArray) (a1_0:Int) (a1_1:Int) (a1_2:Int) (l1_3:List (S66)) (l1_4:List ByteArray):Option (Bool):=if a0_0=a1_0 then (if a0_1=a1_1 then (if a0_2=a1_2 then ((api_File.f k l0_3 l1_3).bind fun t174=>(some t174)) else (some false)) else (some false)) else (some false)
set_option maxHeartbeats 8000000 in
set_option maxRecDepth 100000 in
theorem speech_same.calls (k:Nat) (a0_0:Int) (a0_1:Int) (a0_2:Int) (A0_3:Option Addr) (c0_3:Nat) (l0_3:List (S66)) (A0_4:Option Addr) (c0_4:Nat) (l0_4:List ByteArray) (a1_0:Int) (a1_1:Int) (a1_2:Int) (A1_3:Option Addr) (c1_3:Nat) (l1_3:List (S66)) (A1_4:Option Addr) (c1_4:Nat) (l1_4:List ByteArray) (r:Bool) (w:World) (hr0_3:Kd.C k66 w A0_3 l0_3.length l0_3) (hc0_3:l0_3.length≤c0_3) (hr0_4:Kd.C Kd.string w A0_4 l0_4.length l0_4) (hc0_4:l0_4.length≤c0_4) (hr1_3:Kd.C k66 w A1_3 l1_3.length l1_3) (hc1_3:l1_3.length≤c1_3) (hr1_4:Kd.C Kd.string w A1_4 l1_4.length l1_4) (hc1_4:l1_4.length≤c1_4) (h:speech_same.f k a0_0 a0_1 a0_2 l0_3 l0_4 a1_0 a1_1 a1_2 l1_3 l1_4=some r):
  Calls Tryd.prog 40 #[.agg #[.int .i64 a0_0, .int .i64 a0_1, .int .i64 a0_2, .slice A0_3 l0_3.length c0_3, .slice A0_4 l0_4.length c0_4], .agg #[.int .i64 a1_0, .int .i64 a1_1, .int .i64 a1_2, .slice A1_3 l1_3.length c1_3, .slice A1_4 l1_4.length c1_4]] w fun e w'=>e= .returned (.bool r)∧Below w.heap.size w w':=by
 have hu39:=Tryd.underlying39
 have HR0_3:=Aside0.mk hr0_3
 have HC0_3:=Aside0.mk hc0_3
 clear hr0_3 hc0_3
 have HR0_4:=Aside0.mk hr0_4
 have HC0_4:=Aside0.mk hc0_4
 clear hr0_4 hc0_4
 have HR1_3:=Aside0.mk hr1_3
 have HC1_3:=Aside0.mk hc1_3
 clear hr1_3 hc1_3
 have HR1_4:=Aside0.mk hr1_4
 have HC1_4:=Aside0.mk hc1_4
 clear hr1_4 hc1_4
 have HB:=Aside0.mk (Below.refl w.heap.size w)
 have H:(if a0_0=a1_0 then (if a0_1=a1_1 then (if a0_2=a1_2 then ((api_File.f k l0_3 l1_3).bind fun t174=>(some t174)) else (some false)) else (some false)) else (some false))=some r:=h
 clear h
 by_cases c3:a0_0=a1_0
 ·rw [if_pos c3] at H
  have c3b0:(a0_0 == a1_0)=true:=beq_iff_eq.mpr c3
  have c3b1:(a0_0 != a1_0)=false:=bne_eq_false_iff_eq.mpr c3
  clear c3
  by_cases c4:a0_1=a1_1
  ·rw [if_pos c4] at H
   have c4b0:(a0_1 == a1_1)=true:=beq_iff_eq.mpr c4
   have c4b1:(a0_1 != a1_1)=false:=bne_eq_false_iff_eq.mpr c4
   clear c4
   by_cases c5:a0_2=a1_2
   ·rw [if_pos c5] at H
    have c5b0:(a0_2 == a1_2)=true:=beq_iff_eq.mpr c5
    have c5b1:(a0_2 != a1_2)=false:=bne_eq_false_iff_eq.mpr c5
    clear c5
    replace H:=Option.bind_eq_some_iff.mp H
    obtain ⟨t174,A60,H⟩:=H
    replace H:(some t174)=some r:=H
    have A6:=Aside0.mk A60
    clear A60
    obtain rfl:=Option.some.inj H
    go_enter Tryd.func40,Tryd.ntmps40
    go_wp2_with (first|((with_reducible refine gate_dst (N:=2) rfl ?_);refine box_event ?hg (N:=2) ?hd (cs:=#[.int .i64 a0_0, .int .i64 a0_1, .int .i64 a0_2, .slice A0_3 l0_3.length c0_3, .slice A0_4 l0_4.length c0_4]) (t:=39) ?hr ?_;(case hd=>rfl);(case hg=>rfl);(case hr=>first|(go_simp;done)|(go_simp;rfl));intro gb172 hg w7 hbox hb;have n0_:=Aside0.mk (below_step (by repeat (first|(with_reducible first|exact HB.out|apply below_alloc|apply pw_below_drewN|apply below_drew1)|exact HB.out)) hb);have n1_:=Aside0.mk (hbox);have n2_:=Aside0.mk ((by rw [hg];exact (below_size (by repeat (first|(with_reducible first|exact HB.out|apply below_alloc|apply pw_below_drewN|apply below_drew1)|exact HB.out))):w.heap.size≤gb172));have n3_:=Aside0.mk ((by rw [hg];exact (below_size (by repeat (first|(with_reducible first|exact HB.out|apply below_alloc|apply pw_below_drewN|apply below_drew1)|exact HB.out))):w.heap.size≤gb172));clear HB;have HB:=n0_;have BK172:=n1_;have GW172:=n2_;have GE172:=n3_;clear n0_ n1_ n2_ n3_;clear hb hbox hg)|((with_reducible refine gate_dst (N:=3) rfl ?_);refine box_event ?hg (N:=3) ?hd (cs:=#[.int .i64 a1_0, .int .i64 a1_1, .int .i64 a1_2, .slice A1_3 l1_3.length c1_3, .slice A1_4 l1_4.length c1_4]) (t:=39) ?hr ?_;(case hd=>rfl);(case hg=>rfl);(case hr=>first|(go_simp;done)|(go_simp;rfl));intro gb173 hg w8 hbox hb;have n0_:=Aside0.mk (blk_below (g:=gb172) (o:= .cells #[.int .i64 a0_0, .int .i64 a0_1, .int .i64 a0_2, .slice A0_3 l0_3.length c0_3, .slice A0_4 l0_4.length c0_4] 39 (0,0)) (by (with_reducible repeat (first|refine blk_drewN ?_ _|refine blk_drew ?_|refine blk_alloc ?_ _));exact BK172.out) hb);have n1_:=Aside0.mk (below_step (by repeat (first|(with_reducible first|exact HB.out|apply below_alloc|apply pw_below_drewN|apply below_drew1|refine below_set ?_ GE172.out)|exact HB.out)) hb);have n2_:=Aside0.mk (hbox);have n3_:=Aside0.mk ((by rw [hg];exact (below_size (by repeat (first|(with_reducible first|exact HB.out|apply below_alloc|apply pw_below_drewN|apply below_drew1|refine below_set ?_ GE172.out)|exact HB.out))):w.heap.size≤gb173));have n4_:=Aside0.mk ((by rw [hg];exact (below_size (by repeat (first|(with_reducible first|exact HB.out|apply below_alloc|apply pw_below_drewN|apply below_drew1|refine below_set ?_ GE172.out)|exact HB.out))):w.heap.size≤gb173));have n5_:=Aside0.mk ((by rw [hg];exact Nat.ne_of_lt (blk_lt (g:=gb172) (o:= .cells #[.int .i64 a0_0, .int .i64 a0_1, .int .i64 a0_2, .slice A0_3 l0_3.length c0_3, .slice A0_4 l0_4.length c0_4] 39 (0,0)) (by (with_reducible repeat (first|refine blk_drewN ?_ _|refine blk_drew ?_|refine blk_alloc ?_ _));exact BK172.out)):gb172≠gb173));have n6_:=Aside0.mk ((by rw [hg];exact Nat.ne_of_gt (blk_lt (g:=gb172) (o:= .cells #[.int .i64 a0_0, .int .i64 a0_1, .int .i64 a0_2, .slice A0_3 l0_3.length c0_3, .slice A0_4 l0_4.length c0_4] 39 (0,0)) (by (with_reducible repeat (first|refine blk_drewN ?_ _|refine blk_drew ?_|refine blk_alloc ?_ _));exact BK172.out)):gb173≠gb172));clear BK172;clear HB;have BK172:=n0_;have HB:=n1_;have BK173:=n2_;have GW173:=n3_;have GE173:=n4_;have NB172_173:=n5_;have NB173_172:=n6_;clear n0_ n1_ n2_ n3_ n4_ n5_ n6_;clear hb hbox hg;have hnb9:=NB172_173.out;have hnc9:=NB173_172.out;have hcz10_0:w8.cell? ⟨gb172,0,none⟩=some (.int .i64 a0_0):=(blk_cell BK172.out 0).trans rfl;have hcz10_1:w8.cell? ⟨gb172,1,none⟩=some (.int .i64 a0_1):=(blk_cell BK172.out 1).trans rfl;have hcz10_2:w8.cell? ⟨gb172,2,none⟩=some (.int .i64 a0_2):=(blk_cell BK172.out 2).trans rfl;have hcz10_3:w8.cell? ⟨gb172,3,none⟩=some (.slice A0_3 l0_3.length c0_3):=(blk_cell BK172.out 3).trans rfl;have hcz10_4:w8.cell? ⟨gb172,4,none⟩=some (.slice A0_4 l0_4.length c0_4):=(blk_cell BK172.out 4).trans rfl;have hfz10_0:=blk_frozen BK172.out 0;have hfz10_1:=blk_frozen BK172.out 1;have hfz10_2:=blk_frozen BK172.out 2;have hfz10_3:=blk_frozen BK172.out 3;have hfz10_4:=blk_frozen BK172.out 4;have hcz11_0:w8.cell? ⟨gb173,0,none⟩=some (.int .i64 a1_0):=(blk_cell BK173.out 0).trans rfl;have hcz11_1:w8.cell? ⟨gb173,1,none⟩=some (.int .i64 a1_1):=(blk_cell BK173.out 1).trans rfl;have hcz11_2:w8.cell? ⟨gb173,2,none⟩=some (.int .i64 a1_2):=(blk_cell BK173.out 2).trans rfl;have hcz11_3:w8.cell? ⟨gb173,3,none⟩=some (.slice A1_3 l1_3.length c1_3):=(blk_cell BK173.out 3).trans rfl;have hcz11_4:w8.cell? ⟨gb173,4,none⟩=some (.slice A1_4 l1_4.length c1_4):=(blk_cell BK173.out 4).trans rfl;have hfz11_0:=blk_frozen BK173.out 0;have hfz11_1:=blk_frozen BK173.out 1;have hfz11_2:=blk_frozen BK173.out 2;have hfz11_3:=blk_frozen BK173.out 3;have hfz11_4:=blk_frozen BK173.out 4)|(go_at_call 56;(with_reducible refine (api_File.calls k _ _ l0_3 _ _ l1_3 t174 _ ?side1 ?side2 ?side3 ?side4 A6.out).mono ?_);(case side1=>repeat (first|exact (Kd.C_below HR0_3.out HB.out)|(with_reducible refine Kd.C_alloc ?_ _)|(with_reducible refine Kd.C_drewN ?_ _)|(with_reducible refine Kd.C_drew ?_)));(case side2=>exact HC0_3.out);(case side3=>repeat (first|exact (Kd.C_below HR1_3.out HB.out)|(with_reducible refine Kd.C_alloc ?_ _)|(with_reducible refine Kd.C_drewN ?_ _)|(with_reducible refine Kd.C_drew ?_)));(case side4=>exact HC1_3.out);rintro e w' ⟨rfl,⟨nd,rfl⟩⟩))
    go_ret
    exact ⟨by first|rfl|(simp [errW_none]<;>rfl)|(simp [*]<;>rfl),by repeat (first|(with_reducible first|exact HB.out|apply below_alloc|apply pw_below_drewN|apply below_drew1|refine below_set ?_ GE172.out|refine below_set ?_ GE173.out)|exact HB.out)⟩
   ·rw [if_neg c5] at H
    have c5b0:(a0_2 == a1_2)=false:=beq_eq_false_iff_ne.mpr c5
    have c5b1:(a0_2 != a1_2)=true:=bne_iff_ne.mpr c5
    obtain rfl:=Option.some.inj H
    go_enter Tryd.func40,Tryd.ntmps40
    go_wp2_with (first|((with_reducible refine gate_dst (N:=2) rfl ?_);refine box_event ?hg (N:=2) ?hd (cs:=#[.int .i64 a0_0, .int .i64 a0_1, .int .i64 a0_2, .slice A0_3 l0_3.length c0_3, .slice A0_4 l0_4.length c0_4]) (t:=39) ?hr ?_;(case hd=>rfl);(case hg=>rfl);(case hr=>first|(go_simp;done)|(go_simp;rfl));intro gb172 hg w12 hbox hb;have n0_:=Aside0.mk (below_step (by repeat (first|(with_reducible first|exact HB.out|apply below_alloc|apply pw_below_drewN|apply below_drew1)|exact HB.out)) hb);have n1_:=Aside0.mk (hbox);have n2_:=Aside0.mk ((by rw [hg];exact (below_size (by repeat (first|(with_reducible first|exact HB.out|apply below_alloc|apply pw_below_drewN|apply below_drew1)|exact HB.out))):w.heap.size≤gb172));have n3_:=Aside0.mk ((by rw [hg];exact (below_size (by repeat (first|(with_reducible first|exact HB.out|apply below_alloc|apply pw_below_drewN|apply below_drew1)|exact HB.out))):w.heap.size≤gb172));clear HB;have HB:=n0_;have BK172:=n1_;have GW172:=n2_;have GE172:=n3_;clear n0_ n1_ n2_ n3_;clear hb hbox hg)|((with_reducible refine gate_dst (N:=3) rfl ?_);refine box_event ?hg (N:=3) ?hd (cs:=#[.int .i64 a1_0, .int .i64 a1_1, .int .i64 a1_2, .slice A1_3 l1_3.length c1_3, .slice A1_4 l1_4.length c1_4]) (t:=39) ?hr ?_;(case hd=>rfl);(case hg=>rfl);(case hr=>first|(go_simp;done)|(go_simp;rfl));intro gb173 hg w13 hbox hb;have n0_:=Aside0.mk (blk_below (g:=gb172) (o:= .cells #[.int .i64 a0_0, .int .i64 a0_1, .int .i64 a0_2, .slice A0_3 l0_3.length c0_3, .slice A0_4 l0_4.length c0_4] 39 (0,0)) (by (with_reducible repeat (first|refine blk_drewN ?_ _|refine blk_drew ?_|refine blk_alloc ?_ _));exact BK172.out) hb);have n1_:=Aside0.mk (below_step (by repeat (first|(with_reducible first|exact HB.out|apply below_alloc|apply pw_below_drewN|apply below_drew1|refine below_set ?_ GE172.out)|exact HB.out)) hb);have n2_:=Aside0.mk (hbox);have n3_:=Aside0.mk ((by rw [hg];exact (below_size (by repeat (first|(with_reducible first|exact HB.out|apply below_alloc|apply pw_below_drewN|apply below_drew1|refine below_set ?_ GE172.out)|exact HB.out))):w.heap.size≤gb173));have n4_:=Aside0.mk ((by rw [hg];exact (below_size (by repeat (first|(with_reducible first|exact HB.out|apply below_alloc|apply pw_below_drewN|apply below_drew1|refine below_set ?_ GE172.out)|exact HB.out))):w.heap.size≤gb173));have n5_:=Aside0.mk ((by rw [hg];exact Nat.ne_of_lt (blk_lt (g:=gb172) (o:= .cells #[.int .i64 a0_0, .int .i64 a0_1, .int .i64 a0_2, .slice A0_3 l0_3.length c0_3, .slice A0_4 l0_4.length c0_4] 39 (0,0)) (by (with_reducible repeat (first|refine blk_drewN ?_ _|refine blk_drew ?_|refine blk_alloc ?_ _));exact BK172.out)):gb172≠gb173));have n6_:=Aside0.mk ((by rw [hg];exact Nat.ne_of_gt (blk_lt (g:=gb172) (o:= .cells #[.int .i64 a0_0, .int .i64 a0_1, .int .i64 a0_2, .slice A0_3 l0_3.length c0_3, .slice A0_4 l0_4.length c0_4] 39 (0,0)) (by (with_reducible repeat (first|refine blk_drewN ?_ _|refine blk_drew ?_|refine blk_alloc ?_ _));exact BK172.out)):gb173≠gb172));clear BK172;clear HB;have BK172:=n0_;have HB:=n1_;have BK173:=n2_;have GW173:=n3_;have GE173:=n4_;have NB172_173:=n5_;have NB173_172:=n6_;clear n0_ n1_ n2_ n3_ n4_ n5_ n6_;clear hb hbox hg;have hnb14:=NB172_173.out;have hnc14:=NB173_172.out;have hcz15_0:w13.cell? ⟨gb172,0,none⟩=some (.int .i64 a0_0):=(blk_cell BK172.out 0).trans rfl;have hcz15_1:w13.cell? ⟨gb172,1,none⟩=some (.int .i64 a0_1):=(blk_cell BK172.out 1).trans rfl;have hcz15_2:w13.cell? ⟨gb172,2,none⟩=some (.int .i64 a0_2):=(blk_cell BK172.out 2).trans rfl;have hcz15_3:w13.cell? ⟨gb172,3,none⟩=some (.slice A0_3 l0_3.length c0_3):=(blk_cell BK172.out 3).trans rfl;have hcz15_4:w13.cell? ⟨gb172,4,none⟩=some (.slice A0_4 l0_4.length c0_4):=(blk_cell BK172.out 4).trans rfl;have hfz15_0:=blk_frozen BK172.out 0;have hfz15_1:=blk_frozen BK172.out 1;have hfz15_2:=blk_frozen BK172.out 2;have hfz15_3:=blk_frozen BK172.out 3;have hfz15_4:=blk_frozen BK172.out 4;have hcz16_0:w13.cell? ⟨gb173,0,none⟩=some (.int .i64 a1_0):=(blk_cell BK173.out 0).trans rfl;have hcz16_1:w13.cell? ⟨gb173,1,none⟩=some (.int .i64 a1_1):=(blk_cell BK173.out 1).trans rfl;have hcz16_2:w13.cell? ⟨gb173,2,none⟩=some (.int .i64 a1_2):=(blk_cell BK173.out 2).trans rfl;have hcz16_3:w13.cell? ⟨gb173,3,none⟩=some (.slice A1_3 l1_3.length c1_3):=(blk_cell BK173.out 3).trans rfl;have hcz16_4:w13.cell? ⟨gb173,4,none⟩=some (.slice A1_4 l1_4.length c1_4):=(blk_cell BK173.out 4).trans rfl;have hfz16_0:=blk_frozen BK173.out 0;have hfz16_1:=blk_frozen BK173.out 1;have hfz16_2:=blk_frozen BK173.out 2;have hfz16_3:=blk_frozen BK173.out 3;have hfz16_4:=blk_frozen BK173.out 4))
    go_ret
    exact ⟨by first|rfl|(simp [errW_none]<;>rfl)|(simp [*]<;>rfl),by repeat (first|(with_reducible first|exact HB.out|apply below_alloc|apply pw_below_drewN|apply below_drew1|refine below_set ?_ GE172.out|refine below_set ?_ GE173.out)|exact HB.out)⟩
  ·rw [if_neg c4] at H
   have c4b0:(a0_1 == a1_1)=false:=beq_eq_false_iff_ne.mpr c4
   have c4b1:(a0_1 != a1_1)=true:=bne_iff_ne.mpr c4
   obtain rfl:=Option.some.inj H
   go_enter Tryd.func40,Tryd.ntmps40
   go_wp2_with (first|((with_reducible refine gate_dst (N:=2) rfl ?_);refine box_event ?hg (N:=2) ?hd (cs:=#[.int .i64 a0_0, .int .i64 a0_1, .int .i64 a0_2, .slice A0_3 l0_3.length c0_3, .slice A0_4 l0_4.length c0_4]) (t:=39) ?hr ?_;(case hd=>rfl);(case hg=>rfl);(case hr=>first|(go_simp;done)|(go_simp;rfl));intro gb172 hg w17 hbox hb;have n0_:=Aside0.mk (below_step (by repeat (first|(with_reducible first|exact HB.out|apply below_alloc|apply pw_below_drewN|apply below_drew1)|exact HB.out)) hb);have n1_:=Aside0.mk (hbox);have n2_:=Aside0.mk ((by rw [hg];exact (below_size (by repeat (first|(with_reducible first|exact HB.out|apply below_alloc|apply pw_below_drewN|apply below_drew1)|exact HB.out))):w.heap.size≤gb172));have n3_:=Aside0.mk ((by rw [hg];exact (below_size (by repeat (first|(with_reducible first|exact HB.out|apply below_alloc|apply pw_below_drewN|apply below_drew1)|exact HB.out))):w.heap.size≤gb172));clear HB;have HB:=n0_;have BK172:=n1_;have GW172:=n2_;have GE172:=n3_;clear n0_ n1_ n2_ n3_;clear hb hbox hg)|((with_reducible refine gate_dst (N:=3) rfl ?_);refine box_event ?hg (N:=3) ?hd (cs:=#[.int .i64 a1_0, .int .i64 a1_1, .int .i64 a1_2, .slice A1_3 l1_3.length c1_3, .slice A1_4 l1_4.length c1_4]) (t:=39) ?hr ?_;(case hd=>rfl);(case hg=>rfl);(case hr=>first|(go_simp;done)|(go_simp;rfl));intro gb173 hg w18 hbox hb;have n0_:=Aside0.mk (blk_below (g:=gb172) (o:= .cells #[.int .i64 a0_0, .int .i64 a0_1, .int .i64 a0_2, .slice A0_3 l0_3.length c0_3, .slice A0_4 l0_4.length c0_4] 39 (0,0)) (by (with_reducible repeat (first|refine blk_drewN ?_ _|refine blk_drew ?_|refine blk_alloc ?_ _));exact BK172.out) hb);have n1_:=Aside0.mk (below_step (by repeat (first|(with_reducible first|exact HB.out|apply below_alloc|apply pw_below_drewN|apply below_drew1|refine below_set ?_ GE172.out)|exact HB.out)) hb);have n2_:=Aside0.mk (hbox);have n3_:=Aside0.mk ((by rw [hg];exact (below_size (by repeat (first|(with_reducible first|exact HB.out|apply below_alloc|apply pw_below_drewN|apply below_drew1|refine below_set ?_ GE172.out)|exact HB.out))):w.heap.size≤gb173));have n4_:=Aside0.mk ((by rw [hg];exact (below_size (by repeat (first|(with_reducible first|exact HB.out|apply below_alloc|apply pw_below_drewN|apply below_drew1|refine below_set ?_ GE172.out)|exact HB.out))):w.heap.size≤gb173));have n5_:=Aside0.mk ((by rw [hg];exact Nat.ne_of_lt (blk_lt (g:=gb172) (o:= .cells #[.int .i64 a0_0, .int .i64 a0_1, .int .i64 a0_2, .slice A0_3 l0_3.length c0_3, .slice A0_4 l0_4.length c0_4] 39 (0,0)) (by (with_reducible repeat (first|refine blk_drewN ?_ _|refine blk_drew ?_|refine blk_alloc ?_ _));exact BK172.out)):gb172≠gb173));have n6_:=Aside0.mk ((by rw [hg];exact Nat.ne_of_gt (blk_lt (g:=gb172) (o:= .cells #[.int .i64 a0_0, .int .i64 a0_1, .int .i64 a0_2, .slice A0_3 l0_3.length c0_3, .slice A0_4 l0_4.length c0_4] 39 (0,0)) (by (with_reducible repeat (first|refine blk_drewN ?_ _|refine blk_drew ?_|refine blk_alloc ?_ _));exact BK172.out)):gb173≠gb172));clear BK172;clear HB;have BK172:=n0_;have HB:=n1_;have BK173:=n2_;have GW173:=n3_;have GE173:=n4_;have NB172_173:=n5_;have NB173_172:=n6_;clear n0_ n1_ n2_ n3_ n4_ n5_ n6_;clear hb hbox hg;have hnb19:=NB172_173.out;have hnc19:=NB173_172.out;have hcz20_0:w18.cell? ⟨gb172,0,none⟩=some (.int .i64 a0_0):=(blk_cell BK172.out 0).trans rfl;have hcz20_1:w18.cell? ⟨gb172,1,none⟩=some (.int .i64 a0_1):=(blk_cell BK172.out 1).trans rfl;have hcz20_2:w18.cell? ⟨gb172,2,none⟩=some (.int .i64 a0_2):=(blk_cell BK172.out 2).trans rfl;have hcz20_3:w18.cell? ⟨gb172,3,none⟩=some (.slice A0_3 l0_3.length c0_3):=(blk_cell BK172.out 3).trans rfl;have hcz20_4:w18.cell? ⟨gb172,4,none⟩=some (.slice A0_4 l0_4.length c0_4):=(blk_cell BK172.out 4).trans rfl;have hfz20_0:=blk_frozen BK172.out 0;have hfz20_1:=blk_frozen BK172.out 1;have hfz20_2:=blk_frozen BK172.out 2;have hfz20_3:=blk_frozen BK172.out 3;have hfz20_4:=blk_frozen BK172.out 4;have hcz21_0:w18.cell? ⟨gb173,0,none⟩=some (.int .i64 a1_0):=(blk_cell BK173.out 0).trans rfl;have hcz21_1:w18.cell? ⟨gb173,1,none⟩=some (.int .i64 a1_1):=(blk_cell BK173.out 1).trans rfl;have hcz21_2:w18.cell? ⟨gb173,2,none⟩=some (.int .i64 a1_2):=(blk_cell BK173.out 2).trans rfl;have hcz21_3:w18.cell? ⟨gb173,3,none⟩=some (.slice A1_3 l1_3.length c1_3):=(blk_cell BK173.out 3).trans rfl;have hcz21_4:w18.cell? ⟨gb173,4,none⟩=some (.slice A1_4 l1_4.length c1_4):=(blk_cell BK173.out 4).trans rfl;have hfz21_0:=blk_frozen BK173.out 0;have hfz21_1:=blk_frozen BK173.out 1;have hfz21_2:=blk_frozen BK173.out 2;have hfz21_3:=blk_frozen BK173.out 3;have hfz21_4:=blk_frozen BK173.out 4))
   go_ret
   exact ⟨by first|rfl|(simp [errW_none]<;>rfl)|(simp [*]<;>rfl),by repeat (first|(with_reducible first|exact HB.out|apply below_alloc|apply pw_below_drewN|apply below_drew1|refine below_set ?_ GE172.out|refine below_set ?_ GE173.out)|exact HB.out)⟩
 ·rw [if_neg c3] at H
  have c3b0:(a0_0 == a1_0)=false:=beq_eq_false_iff_ne.mpr c3
  have c3b1:(a0_0 != a1_0)=true:=bne_iff_ne.mpr c3
  obtain rfl:=Option.some.inj H
  go_enter Tryd.func40,Tryd.ntmps40
  go_wp2_with (first|((with_reducible refine gate_dst (N:=2) rfl ?_);refine box_event ?hg (N:=2) ?hd (cs:=#[.int .i64 a0_0, .int .i64 a0_1, .int .i64 a0_2, .slice A0_3 l0_3.length c0_3, .slice A0_4 l0_4.length c0_4]) (t:=39) ?hr ?_;(case hd=>rfl);(case hg=>rfl);(case hr=>first|(go_simp;done)|(go_simp;rfl));intro gb172 hg w22 hbox hb;have n0_:=Aside0.mk (below_step (by repeat (first|(with_reducible first|exact HB.out|apply below_alloc|apply pw_below_drewN|apply below_drew1)|exact HB.out)) hb);have n1_:=Aside0.mk (hbox);have n2_:=Aside0.mk ((by rw [hg];exact (below_size (by repeat (first|(with_reducible first|exact HB.out|apply below_alloc|apply pw_below_drewN|apply below_drew1)|exact HB.out))):w.heap.size≤gb172));have n3_:=Aside0.mk ((by rw [hg];exact (below_size (by repeat (first|(with_reducible first|exact HB.out|apply below_alloc|apply pw_below_drewN|apply below_drew1)|exact HB.out))):w.heap.size≤gb172));clear HB;have HB:=n0_;have BK172:=n1_;have GW172:=n2_;have GE172:=n3_;clear n0_ n1_ n2_ n3_;clear hb hbox hg)|((with_reducible refine gate_dst (N:=3) rfl ?_);refine box_event ?hg (N:=3) ?hd (cs:=#[.int .i64 a1_0, .int .i64 a1_1, .int .i64 a1_2, .slice A1_3 l1_3.length c1_3, .slice A1_4 l1_4.length c1_4]) (t:=39) ?hr ?_;(case hd=>rfl);(case hg=>rfl);(case hr=>first|(go_simp;done)|(go_simp;rfl));intro gb173 hg w23 hbox hb;have n0_:=Aside0.mk (blk_below (g:=gb172) (o:= .cells #[.int .i64 a0_0, .int .i64 a0_1, .int .i64 a0_2, .slice A0_3 l0_3.length c0_3, .slice A0_4 l0_4.length c0_4] 39 (0,0)) (by (with_reducible repeat (first|refine blk_drewN ?_ _|refine blk_drew ?_|refine blk_alloc ?_ _));exact BK172.out) hb);have n1_:=Aside0.mk (below_step (by repeat (first|(with_reducible first|exact HB.out|apply below_alloc|apply pw_below_drewN|apply below_drew1|refine below_set ?_ GE172.out)|exact HB.out)) hb);have n2_:=Aside0.mk (hbox);have n3_:=Aside0.mk ((by rw [hg];exact (below_size (by repeat (first|(with_reducible first|exact HB.out|apply below_alloc|apply pw_below_drewN|apply below_drew1|refine below_set ?_ GE172.out)|exact HB.out))):w.heap.size≤gb173));have n4_:=Aside0.mk ((by rw [hg];exact (below_size (by repeat (first|(with_reducible first|exact HB.out|apply below_alloc|apply pw_below_drewN|apply below_drew1|refine below_set ?_ GE172.out)|exact HB.out))):w.heap.size≤gb173));have n5_:=Aside0.mk ((by rw [hg];exact Nat.ne_of_lt (blk_lt (g:=gb172) (o:= .cells #[.int .i64 a0_0, .int .i64 a0_1, .int .i64 a0_2, .slice A0_3 l0_3.length c0_3, .slice A0_4 l0_4.length c0_4] 39 (0,0)) (by (with_reducible repeat (first|refine blk_drewN ?_ _|refine blk_drew ?_|refine blk_alloc ?_ _));exact BK172.out)):gb172≠gb173));have n6_:=Aside0.mk ((by rw [hg];exact Nat.ne_of_gt (blk_lt (g:=gb172) (o:= .cells #[.int .i64 a0_0, .int .i64 a0_1, .int .i64 a0_2, .slice A0_3 l0_3.length c0_3, .slice A0_4 l0_4.length c0_4] 39 (0,0)) (by (with_reducible repeat (first|refine blk_drewN ?_ _|refine blk_drew ?_|refine blk_alloc ?_ _));exact BK172.out)):gb173≠gb172));clear BK172;clear HB;have BK172:=n0_;have HB:=n1_;have BK173:=n2_;have GW173:=n3_;have GE173:=n4_;have NB172_173:=n5_;have NB173_172:=n6_;clear n0_ n1_ n2_ n3_ n4_ n5_ n6_;clear hb hbox hg;have hnb24:=NB172_173.out;have hnc24:=NB173_172.out;have hcz25_0:w23.cell? ⟨gb172,0,none⟩=some (.int .i64 a0_0):=(blk_cell BK172.out 0).trans rfl;have hcz25_1:w23.cell? ⟨gb172,1,none⟩=some (.int .i64 a0_1):=(blk_cell BK172.out 1).trans rfl;have hcz25_2:w23.cell? ⟨gb172,2,none⟩=some (.int .i64 a0_2):=(blk_cell BK172.out 2).trans rfl;have hcz25_3:w23.cell? ⟨gb172,3,none⟩=some (.slice A0_3 l0_3.length c0_3):=(blk_cell BK172.out 3).trans rfl;have hcz25_4:w23.cell? ⟨gb172,4,none⟩=some (.slice A0_4 l0_4.length c0_4):=(blk_cell BK172.out 4).trans rfl;have hfz25_0:=blk_frozen BK172.out 0;have hfz25_1:=blk_frozen BK172.out 1;have hfz25_2:=blk_frozen BK172.out 2;have hfz25_3:=blk_frozen BK172.out 3;have hfz25_4:=blk_frozen BK172.out 4;have hcz26_0:w23.cell? ⟨gb173,0,none⟩=some (.int .i64 a1_0):=(blk_cell BK173.out 0).trans rfl;have hcz26_1:w23.cell? ⟨gb173,1,none⟩=some (.int .i64 a1_1):=(blk_cell BK173.out 1).trans rfl;have hcz26_2:w23.cell? ⟨gb173,2,none⟩=some (.int .i64 a1_2):=(blk_cell BK173.out 2).trans rfl;have hcz26_3:w23.cell? ⟨gb173,3,none⟩=some (.slice A1_3 l1_3.length c1_3):=(blk_cell BK173.out 3).trans rfl;have hcz26_4:w23.cell? ⟨gb173,4,none⟩=some (.slice A1_4 l1_4.length c1_4):=(blk_cell BK173.out 4).trans rfl;have hfz26_0:=blk_frozen BK173.out 0;have hfz26_1:=blk_frozen BK173.out 1;have hfz26_2:=blk_frozen BK173.out 2;have hfz26_3:=blk_frozen BK173.out 3;have hfz26_4:=blk_frozen BK173.out 4))
  go_ret
  exact ⟨by first|rfl|(simp [errW_none]<;>rfl)|(simp [*]<;>rfl),by repeat (first|(with_reducible first|exact HB.out|apply below_alloc|apply pw_below_drewN|apply below_drew1|refine below_set ?_ GE172.out|refine below_set ?_ GE173.out)|exact HB.out)⟩
end Go.Proofs.YthejnffhfmdpnaaDoor.Q

end

section
namespace Go.Proofs.YthejnffhfmdpnaaDoor.Q
open Go.RowKit Go.Proofs.YthejnffhfmdpnaaDoorW.PrintWords Go.Proofs.YthejnffhfmdpnaaDoorW.PrintLast Go.Proofs.YthejnffhfmdpnaaDoorW.PrintMore
attribute [local go_sem] min2_int min_two
set_option linter.unusedVariables false
set_option linter.unusedSimpArgs false
def speech_changes.f (a0_0:Int) (a0_1:Int) (l0_2:List (S66)):Option (Bool):=if a0_0=1 then (some true) else (some (a0_0 == 5))
set_option maxHeartbeats 8000000 in
set_option maxRecDepth 100000 in
theorem speech_changes.calls (a0_0:Int) (a0_1:Int) (A0_2:Option Addr) (c0_2:Nat) (l0_2:List (S66)) (r:Bool) (w:World) (hr0_2:Kd.C k66 w A0_2 l0_2.length l0_2) (hc0_2:l0_2.length≤c0_2) (h:speech_changes.f a0_0 a0_1 l0_2=some r):
  Calls Tryd.prog 54 #[.agg #[.int .i64 a0_0, .int .i64 a0_1, .slice A0_2 l0_2.length c0_2]] w fun e w'=>e= .returned (.bool r)∧Below w.heap.size w w':=by
 have hu43:=Tryd.underlying43
 have HR0_2:=Aside0.mk hr0_2
 have HC0_2:=Aside0.mk hc0_2
 clear hr0_2 hc0_2
 have HB:=Aside0.mk (Below.refl w.heap.size w)
 have H:(if a0_0=1 then (some true) else (some (a0_0 == 5)))=some r:=h
 clear h
 by_cases c2:a0_0=1
 ·rw [if_pos c2] at H
  have c2b0:(a0_0 == 1)=true:=beq_iff_eq.mpr c2
  have c2b1:(a0_0 != 1)=false:=bne_eq_false_iff_eq.mpr c2
  clear c2
  obtain rfl:=Option.some.inj H
  go_enter Tryd.func54,Tryd.ntmps54
  go_wp2_with (first|((with_reducible refine gate_dst (N:=1) rfl ?_);refine box_event ?hg (N:=1) ?hd (cs:=#[.int .i64 a0_0, .int .i64 a0_1, .slice A0_2 l0_2.length c0_2]) (t:=43) ?hr ?_;(case hd=>rfl);(case hg=>rfl);(case hr=>first|(go_simp;done)|(go_simp;rfl));intro gb292 hg w3 hbox hb;have n0_:=Aside0.mk (below_step (by repeat (first|(with_reducible first|exact HB.out|apply below_alloc|apply pw_below_drewN|apply below_drew1)|exact HB.out)) hb);have n1_:=Aside0.mk (hbox);have n2_:=Aside0.mk ((by rw [hg];exact (below_size (by repeat (first|(with_reducible first|exact HB.out|apply below_alloc|apply pw_below_drewN|apply below_drew1)|exact HB.out))):w.heap.size≤gb292));have n3_:=Aside0.mk ((by rw [hg];exact (below_size (by repeat (first|(with_reducible first|exact HB.out|apply below_alloc|apply pw_below_drewN|apply below_drew1)|exact HB.out))):w.heap.size≤gb292));clear HB;have HB:=n0_;have BK292:=n1_;have GW292:=n2_;have GE292:=n3_;clear n0_ n1_ n2_ n3_;clear hb hbox hg;have hcz4_0:w3.cell? ⟨gb292,0,none⟩=some (.int .i64 a0_0):=(blk_cell BK292.out 0).trans rfl;have hcz4_1:w3.cell? ⟨gb292,1,none⟩=some (.int .i64 a0_1):=(blk_cell BK292.out 1).trans rfl;have hcz4_2:w3.cell? ⟨gb292,2,none⟩=some (.slice A0_2 l0_2.length c0_2):=(blk_cell BK292.out 2).trans rfl;have hfz4_0:=blk_frozen BK292.out 0;have hfz4_1:=blk_frozen BK292.out 1;have hfz4_2:=blk_frozen BK292.out 2))
  go_ret
  exact ⟨by first|rfl|(simp [errW_none]<;>rfl)|(simp [*]<;>rfl),by repeat (first|(with_reducible first|exact HB.out|apply below_alloc|apply pw_below_drewN|apply below_drew1|refine below_set ?_ GE292.out)|exact HB.out)⟩
 ·rw [if_neg c2] at H
  have c2b0:(a0_0 == 1)=false:=beq_eq_false_iff_ne.mpr c2
  have c2b1:(a0_0 != 1)=true:=bne_iff_ne.mpr c2
  obtain rfl:=Option.some.inj H
  go_enter Tryd.func54,Tryd.ntmps54
  go_wp2_with (first|((with_reducible refine gate_dst (N:=1) rfl ?_);refine box_event ?hg (N:=1) ?hd (cs:=#[.int .i64 a0_0, .int .i64 a0_1, .slice A0_2 l0_2.length c0_2]) (t:=43) ?hr ?_;(case hd=>rfl);(case hg=>rfl);(case hr=>first|(go_simp;done)|(go_simp;rfl));intro gb292 hg w5 hbox hb;have n0_:=Aside0.mk (below_step (by repeat (first|(with_reducible first|exact HB.out|apply below_alloc|apply pw_below_drewN|apply below_drew1)|exact HB.out)) hb);have n1_:=Aside0.mk (hbox);have n2_:=Aside0.mk ((by rw [hg];exact (below_size (by repeat (first|(with_reducible first|exact HB.out|apply below_alloc|apply pw_below_drewN|apply below_drew1)|exact HB.out))):w.heap.size≤gb292));have n3_:=Aside0.mk ((by rw [hg];exact (below_size (by repeat (first|(with_reducible first|exact HB.out|apply below_alloc|apply pw_below_drewN|apply below_drew1)|exact HB.out))):w.heap.size≤gb292));clear HB;have HB:=n0_;have BK292:=n1_;have GW292:=n2_;have GE292:=n3_;clear n0_ n1_ n2_ n3_;clear hb hbox hg;have hcz6_0:w5.cell? ⟨gb292,0,none⟩=some (.int .i64 a0_0):=(blk_cell BK292.out 0).trans rfl;have hcz6_1:w5.cell? ⟨gb292,1,none⟩=some (.int .i64 a0_1):=(blk_cell BK292.out 1).trans rfl;have hcz6_2:w5.cell? ⟨gb292,2,none⟩=some (.slice A0_2 l0_2.length c0_2):=(blk_cell BK292.out 2).trans rfl;have hfz6_0:=blk_frozen BK292.out 0;have hfz6_1:=blk_frozen BK292.out 1;have hfz6_2:=blk_frozen BK292.out 2))
  go_ret
  exact ⟨by first|rfl|(simp [errW_none]<;>rfl)|(simp [*]<;>rfl),by repeat (first|(with_reducible first|exact HB.out|apply below_alloc|apply pw_below_drewN|apply below_drew1|refine below_set ?_ GE292.out)|exact HB.out)⟩
end Go.Proofs.YthejnffhfmdpnaaDoor.Q

end
