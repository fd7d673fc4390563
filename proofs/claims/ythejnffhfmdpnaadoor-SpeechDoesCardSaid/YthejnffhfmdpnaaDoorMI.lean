/- Texts of this claim, in one file. -/
import Derived.Outline
import Derived.BigRegion
import Derived.SliceStrings
import Derived.Deep.Strs
import Derived.DataReads
import Derived.Test.YthejnffhfmdpnaaDoorRows
import Derived.Test.YthejnffhfmdpnaaDoorCards
import Derived.Test.YthejnffhfmdpnaaDoorTie
import Derived.SevenTiedAt
import Derived.Lib.LaidIn
import Derived.Deep.DeepHandedRow
import Derived.Deep.DeepWitnessRowRef
import Derived.ProofKit
import Derived.OpenShut
import Derived.Below
import Derived.SizedLaws
import Derived.Test.YthejnffhfmdpnaaDoorMH
section
namespace Go.Proofs.YthejnffhfmdpnaaDoor.Q
open Go.RowKit Go.Proofs.YthejnffhfmdpnaaDoorW.PrintWords Go.Proofs.YthejnffhfmdpnaaDoorW.PrintLast Go.Proofs.YthejnffhfmdpnaaDoorW.PrintMore
set_option linter.unusedVariables false
set_option linter.unusedSimpArgs false
abbrev DoR:=Int × List ByteArray × Int × Int × Int × List S66 × List ByteArray
abbrev FR:=Bool × List Bool × Int × List Int
def takeF (k:Nat) (x:S45) (a:DoR):Option Bool:=if idleB x=true then some ((x.f2.f0 == 1 || x.f2.f0 == 5) && (a.2.2.1 == 0)) else speech_same.f k a.2.2.1 a.2.2.2.1 a.2.2.2.2.1 a.2.2.2.2.2.1 a.2.2.2.2.2.2 x.f3.f0 x.f3.f1 x.f3.f2 x.f3.f3 x.f3.f4
mutual
def find.f:Nat→List S45→List Bool→Int→List Int→Int→List ByteArray→Option FR
 |0,_,_,_,_,_,_=>none
 |k+1,l,dn,left,od,fl,tr=>if overB l dn=true then some (true,dn,left,od) else if wrap64 (left - 1) < 0 then some (false,dn,wrap64 (left - 1),od) else find.l0 k l dn (wrap64 (left - 1)) od fl tr 0
def find.l0:Nat→List S45→List Bool→Int→List Int→Int→List ByteArray→Nat→Option FR
 |0,_,_,_,_,_,_,_=>none
 |k+1,l,dn,left,od,fl,tr,i=>if i < l.length then (if rdOf false dn (i:Int)=true then find.l0 k l dn left od fl tr (i+1) else if freeB l dn i=false then find.l0 k l dn left od fl tr (i+1) else (speech_Do.f k fl tr (rd_T45 l (i:Int)).f2.f0 (rd_T45 l (i:Int)).f2.f1 (rd_T45 l (i:Int)).f2.f2).bind fun a=>(takeF k (rd_T45 l (i:Int)) a).bind fun t=>if t=false then find.l0 k l dn left od fl tr (i+1) else if od.length < 1000000000000 then ((find.f k l (dn.set i true) left (od++[(i:Int)]) a.1 a.2.1).bind fun r=>if r.1=true then some r else if 1≤r.2.2.2.length then find.l0 k l (r.2.1.set i false) r.2.2.1 (r.2.2.2.take (r.2.2.2.length - 1)) fl tr (i+1) else none) else none) else some (false,dn,left,od)
end
def FindPost (wB:World) (g:Nat) (A0:Option Addr) (c0:Nat) (l:List S45) (v1 v3:Value) (w:World) (r:FR) (e:Ending) (w':World):Prop:=
 ∃v3':Value,e= .returned (.bool r.1)∧Fnd wB g A0 c0 l v1 r.2.1 r.2.2.1 v3' r.2.2.2 w'∧Kept w w' (FS g v1 v3)∧ ∀k,v3'.ownBlock=some k→some k=v3.ownBlock∨w.heap.size≤k
def FindRel (wB:World) (g:Nat) (A0:Option Addr) (c0:Nat) (l:List S45) (v1 v3:Value) (w:World) (fl:Int) (tr:List ByteArray) (vt:Value) (dn:List Bool) (left:Int) (v3c:Value) (od:List Int) (wr:World):Prop:=
 Fnd wB g A0 c0 l v1 dn left v3c od wr∧Bs [(w.heap.size,#[.int .i64 fl,vt],36)] wr∧Kd.R Kd.string 9 wr wB.heap.size (fun _=>True) vt tr∧Kept w wr (FS g v1 v3)∧ ∀k,v3c.ownBlock=some k→some k=v3.ownBlock∨w.heap.size≤k
theorem FindRel.below {wB:World} {g:Nat} {A0:Option Addr} {c0:Nat} {l:List S45} {v1 v3:Value} {w:World} {fl:Int} {tr:List ByteArray} {vt:Value} {dn:List Bool} {left:Int} {v3c:Value} {od:List Int} {wr w2:World} (h:FindRel wB g A0 c0 l v1 v3 w fl tr vt dn left v3c od wr) (hb:Below wr.heap.size wr w2):FindRel wB g A0 c0 l v1 v3 w fl tr vt dn left v3c od w2:=
 ⟨h.1.below hb,h.2.1.below hb,Kd.R_below h.2.2.1 hb,h.2.2.2.1.below hb,h.2.2.2.2⟩
theorem FindRel.go {wB:World} {g:Nat} {A0:Option Addr} {c0:Nat} {l:List S45} {v1 v3:Value} {w:World} {fl:Int} {tr:List ByteArray} {vt:Value} {dn dn':List Bool} {left left':Int} {v3c v3':Value} {od od':List Int} {wr w2:World} (h:FindRel wB g A0 c0 l v1 v3 w fl tr vt dn left v3c od wr) (hF:Fnd wB g A0 c0 l v1 dn' left' v3' od' w2) (hK:Kept wr w2 (FS g v1 v3c)) (hv: ∀k,v3'.ownBlock=some k→some k=v3c.ownBlock∨wr.heap.size≤k):FindRel wB g A0 c0 l v1 v3 w fl tr vt dn' left' v3' od' w2:=by
 refine ⟨hF,h.2.1.kept h.1 hK,h.1.keep_row h.2.2.1 (by decide) hK,Kept.then_ h.2.2.2.1 hK (fun k hk=>?_),fun k hk=>?_⟩
 ·rcases hk with rfl|hk|hk
  ·exact .inl (.inl rfl)
  ·exact .inl (.inr (.inl hk))
  ·rcases h.2.2.2.2 k hk.symm with he|he
   ·exact .inl (.inr (.inr he))
   ·exact .inr he
 ·rcases hv k hk with he|he
  ·exact h.2.2.2.2 k he.symm
  ·exact .inr (Nat.le_trans h.2.2.2.1.1 he)
theorem FindRel.setLeft {wB:World} {g:Nat} {A0:Option Addr} {c0:Nat} {l:List S45} {v1 v3:Value} {w:World} {fl:Int} {tr:List ByteArray} {vt:Value} {dn:List Bool} {left:Int} {v3c:Value} {od:List Int} {wr:World} (h:FindRel wB g A0 c0 l v1 v3 w fl tr vt dn left v3c od wr) (n:Int):FindRel wB g A0 c0 l v1 v3 w fl tr vt dn n v3c od (wr.setCell ⟨g,2,none⟩ (.int .i64 n)):=
 h.go (h.1.setLeft n) ((Kept.refl wr _).setCell (.inl (.inl rfl)) _) (fun k hk=> .inl hk.symm)
set_option maxHeartbeats 16000000 in
set_option maxRecDepth 100000 in
theorem find_calls (k:Nat): ∀(wB:World) (g:Nat) (A0:Option Addr) (c0:Nat) (l:List S45) (A1:Option Addr) (c1:Nat) (dn:List Bool) (left:Int) (v3:Value) (od:List Int) (fl:Int) (At:Option Addr) (ct:Nat) (tr:List ByteArray) (r:FR) (w:World),find.f k l dn left od fl tr=some r→Fnd wB g A0 c0 l (.slice A1 l.length c1) dn left v3 od w→Kd.R Kd.string 9 w wB.heap.size (fun _=>True) (.slice At tr.length ct) tr→
  Calls Tryd.prog 37 #[.pointer (some ⟨g,0,none⟩), .agg #[.int .i64 fl, .slice At tr.length ct]] w (FindPost wB g A0 c0 l (.slice A1 l.length c1) v3 w r):=by
 induction k using Nat.strongRecOn with
 |ind k IH=>
  intro wB g A0 c0 l A1 c1 dn left v3 od fl At ct tr r w hf hF hT
  cases k with
  |zero=>exact absurd hf (by simp [find.f])
  |succ k=>
   rw [find.f] at hf
   have HIH:=Aside0.mk IH
   clear IH
   have hlm:=hF.max
   have HR0:=Aside0.mk (show FindRel wB g A0 c0 l (.slice A1 l.length c1) v3 w fl tr (.slice At tr.length ct) dn left v3 od (w.alloc (.cells #[.int .i64 fl, .slice At tr.length ct] 36)) from ⟨hF.below (below_alloc (Below.refl _ _) _),(Bs.nil w).cons _ 36 (by decide) (by decide) (by decide),Kd.R_below hT (below_alloc (Below.refl _ _) _),(Kept.refl w _).alloc _,fun k hk=> .inl hk.symm⟩)
   have HD:=Aside0.mk hF.2.2.2.2.2.2.2
   clear hF hT
   have HO:=Aside0.mk (over_calls g A0 c0 l A1 c1 dn left v3 _ HR0.out.1.fst HD.out)
   by_cases h1:overB l dn=true
   ·rw [if_pos h1] at hf
    obtain rfl:=Option.some.inj hf
    rw [h1] at HO
    clear h1 hf
    go_enter Tryd.func37,Tryd.ntmps37
    go_wp2_with fail
    go_step3
    go_wp2_with (first|(go_at_call 41;(with_reducible refine HO.out.mono ?_);rintro e w2 ⟨rfl,hb⟩;have HR:=Aside0.mk (HR0.out.below hb);clear hb))
    rw [Exit.noGoto_ret]
    go_ret
    exact ⟨v3,rfl,HR.out.1,HR.out.2.2.2.1,HR.out.2.2.2.2⟩
   rw [if_neg h1] at hf
   have h1:overB l dn=false:=by simpa using h1
   rw [h1] at HO
   clear h1
   by_cases h2:wrap64 (left - 1) < 0
   ·rw [if_pos h2] at hf
    obtain rfl:=Option.some.inj hf
    have h2b:decide (wrap64 (left - 1) < 0)=true:=decide_eq_true h2
    clear h2 hf
    go_enter Tryd.func37,Tryd.ntmps37
    go_wp2_with fail
    go_step3
    go_wp2_with (first|(go_at_call 41;(with_reducible refine HO.out.mono ?_);rintro e w2 ⟨rfl,hb⟩;have HR:=Aside0.mk (HR0.out.below hb);clear hb;obtain ⟨z0,z1,z2,z3⟩:=HR.out.1.cells;have y0:=blk_frozen HR.out.1.1 0;have y1:=blk_frozen HR.out.1.1 1;have y2:=blk_frozen HR.out.1.1 2;have y3:=blk_frozen HR.out.1.1 3))
    have HR2:=Aside0.mk (HR.out.setLeft (wrap64 (left - 1)))
    rw [Exit.noGoto_ret]
    go_ret
    exact ⟨v3,rfl,HR2.out.1,HR2.out.2.2.2.1,HR2.out.2.2.2.2⟩
   rw [if_neg h2] at hf
   have h2b:decide (wrap64 (left - 1) < 0)=false:=decide_eq_false h2
   clear h2
   have HF:=Aside0.mk hf
   clear hf
   go_enter Tryd.func37,Tryd.ntmps37
   go_wp2_with fail
   go_step3
   go_wp2_with (first|(go_at_call 41;(with_reducible refine HO.out.mono ?_);rintro e w2 ⟨rfl,hb⟩;have HR:=Aside0.mk (HR0.out.below hb);clear hb;obtain ⟨z0,z1,z2,z3⟩:=HR.out.1.cells;have y0:=blk_frozen HR.out.1.1 0;have y1:=blk_frozen HR.out.1.1 1;have y2:=blk_frozen HR.out.1.1 2;have y3:=blk_frozen HR.out.1.1 3))
   have HR2:=Aside0.mk (HR.out.setLeft (wrap64 (left - 1)))
   clear z0 z1 z2 z3 y0 y1 y2 y3 HR HR0 h2b HO
   generalize w2.setCell ⟨g,2,none⟩ (.int .i64 (wrap64 (left - 1)))=w3 at HR2 ⊢
   generalize wrap64 (left - 1)=left at HF HR2 ⊢
   obtain ⟨z0,z1,z2,z3⟩:=HR2.out.1.cells
   go_step3
   go_wp2_with fail
   clear z0 z1 z2 z3 hlm
   have hlm:=HR2.out.1.max
   go_loopg [29] (l.length+1) (fun gq v29 wr=> ∃(i kq:Nat) (dn:List Bool) (left:Int) (v3c:Value) (od:List Int),v29= .int .i64 i∧Aside0 (i≤l.length∧gq+i=l.length+1)∧Aside0 (kq≤k∧find.l0 kq l dn left od fl tr i=some r)∧Aside0 (FindRel wB g A0 c0 l (.slice A1 l.length c1) v3 w fl tr (.slice At tr.length ct) dn left v3c od wr))
   case atStart=>exact ⟨0,k,dn,left,v3,od,rfl,⟨by omega⟩,⟨Nat.le_refl _,HF.out⟩,HR2⟩
   case round=>
    clear HR2 HF HD
    obtain ⟨i,kq,dn,left,v3c,od,rfl,HG,HF,HR⟩:=hrel
    obtain ⟨hkq,hf⟩:=HF.out
    clear HF
    cases kq with
    |zero=>exact absurd hf (by simp [find.l0])
    |succ kq=>
     rw [find.l0] at hf
     have HKq:=Aside0.mk hkq
     clear hkq
     by_cases hi:i < l.length
     ·rw [if_pos hi] at hf
      have ltb:decide ((i:Int) < (l.length:Int))=true:=decide_eq_true (by omega)
      have ltc:decide (i < l.length)=true:=decide_eq_true hi
      have HFs:=Aside0.mk HR.out.1.fst
      have HD:=Aside0.mk HR.out.1.2.2.2.2.2.2.2
      obtain ⟨gd,rfl,hgd⟩:=HR.out.1.head (by omega)
      have HGD:=Aside0.mk hgd
      clear hgd
      obtain ⟨y0,y1⟩:=Kd.R_celln (enc:=Value.bool) (h1:=fun _=>rfl) false HR.out.1.2.2.2.2.2.1 (i:Int) (by omega) (by omega)
      rw [Int.toNat_natCast] at y0 y1
      obtain ⟨z0,z1,z2,z3⟩:=HR.out.1.cells
      obtain ⟨ad,A4,c4,A8,c8,A9,c9,ead,x0,x1,x2,x3,x4,x5,x6,x7,x8,x9,l4,g4,l8,g8,l9,g9⟩:=at_T45 HFs.out.2.1 (i:Int) (by omega) (by omega)
      cases ead
      rw [Int.toNat_natCast] at x0 x1 x2 x3 x4 x5 x6 x7 x8 x9
      have p200:=eq_true (show (0:Int)≤(i:Int) by omega)
      have q200:=eq_true (show (i:Int) < (l.length:Int) by omega)
      obtain ⟨x,hx⟩: ∃x,x=rd_T45 l (i:Int):=⟨_,rfl⟩
      rw [← hx] at x0 x1 x2 x3 x4 x5 x6 x7 x8 x9 l4 g4 l8 g8 l9 g9 hf
      have HXe:=Aside0.mk hx.symm
      have H4:=Aside0.mk (And.intro l4 g4)
      have H8:=Aside0.mk (And.intro l8 g8)
      have H9:=Aside0.mk (And.intro l9 g9)
      clear l4 g4 l8 g8 l9 g9 hx
      by_cases b1:rdOf false dn (i:Int)=true
      ·rw [if_pos b1] at hf
       rw [b1] at y0
       have HF:=Aside0.mk hf
       clear hf
       have HR1:=Aside0.mk (HR.out.below (below_alloc (Below.refl _ _) (.cells #[.int .i64 x.f0, .int .i64 x.f1, .int .i64 x.f2.f0, .int .i64 x.f2.f1, .slice A4 x.f2.f2.length c4, .int .i64 x.f3.f0, .int .i64 x.f3.f1, .int .i64 x.f3.f2, .slice A8 x.f3.f3.length c8, .slice A9 x.f3.f4.length c9] 45)))
       obtain ⟨zz0,zz1,zz2,zz3⟩:=HR1.out.1.cells
       obtain ⟨yy0,yy1⟩:=Kd.R_celln (enc:=Value.bool) (h1:=fun _=>rfl) false HR1.out.1.2.2.2.2.2.1 (i:Int) (by omega) (by omega)
       rw [Int.toNat_natCast] at yy0 yy1
       rw [b1] at yy0
       clear b1
       go_wp2_with fail
       go_roundg (l.length - i)
       case measure=>have:=HG.out.2;omega
       case rel=>exact ⟨i+1,kq,dn,left,v3c,od,by go_num,⟨by have:=HG.out;omega⟩,⟨by have:=HKq.out;omega,HF.out⟩,HR1⟩
      ·rw [if_neg b1] at hf
       have b1:rdOf false dn (i:Int)=false:=by simpa using b1
       rw [b1] at y0
       have HR1:=Aside0.mk (HR.out.below (below_alloc (Below.refl _ _) (.cells #[.int .i64 x.f0, .int .i64 x.f1, .int .i64 x.f2.f0, .int .i64 x.f2.f1, .slice A4 x.f2.f2.length c4, .int .i64 x.f3.f0, .int .i64 x.f3.f1, .int .i64 x.f3.f2, .slice A8 x.f3.f3.length c8, .slice A9 x.f3.f4.length c9] 45)))
       obtain ⟨zz0,zz1,zz2,zz3⟩:=HR1.out.1.cells
       obtain ⟨yy0,yy1⟩:=Kd.R_celln (enc:=Value.bool) (h1:=fun _=>rfl) false HR1.out.1.2.2.2.2.2.1 (i:Int) (by omega) (by omega)
       rw [Int.toNat_natCast] at yy0 yy1
       rw [b1] at yy0
       clear b1
       have HX:=Aside0.mk ((Bs.nil wr).cons #[.int .i64 x.f0, .int .i64 x.f1, .int .i64 x.f2.f0, .int .i64 x.f2.f1, .slice A4 x.f2.f2.length c4, .int .i64 x.f3.f0, .int .i64 x.f3.f1, .int .i64 x.f3.f2, .slice A8 x.f3.f3.length c8, .slice A9 x.f3.f4.length c9] 45 (by decide) (by decide) (by decide))
       have HFR:=Aside0.mk (free_calls g (some ad) c0 l (some ⟨gd,0,none⟩) c1 dn left v3c (wr.alloc (.cells #[.int .i64 x.f0, .int .i64 x.f1, .int .i64 x.f2.f0, .int .i64 x.f2.f1, .slice A4 x.f2.f2.length c4, .int .i64 x.f3.f0, .int .i64 x.f3.f1, .int .i64 x.f3.f2, .slice A8 x.f3.f3.length c8, .slice A9 x.f3.f4.length c9] 45)) HR1.out.1.fst HD.out i hi)
       by_cases b2:freeB l dn i=false
       ·rw [if_pos b2] at hf
        rw [b2] at HFR
        have HF:=Aside0.mk hf
        clear hf b2
        go_wp2_with (first|(go_at_call 38;(with_reducible refine HFR.out.mono ?_);rintro e w2 ⟨rfl,hb⟩;have HR3:=Aside0.mk (HR1.out.below hb);clear hb))
        go_roundg (l.length - i)
        case measure=>have:=HG.out.2;omega
        case rel=>exact ⟨i+1,kq,dn,left,v3c,od,by go_num,⟨by have:=HG.out;omega⟩,⟨by have:=HKq.out;omega,HF.out⟩,HR3⟩
       ·rw [if_neg b2] at hf
        have b2:freeB l dn i=true:=by simpa using b2
        rw [b2] at HFR
        clear b2
        obtain ⟨a,hDo,hf⟩:=Option.bind_eq_some_iff.mp hf
        obtain ⟨t,hT,hf⟩:=Option.bind_eq_some_iff.mp hf
        have HDo:=Aside0.mk hDo
        have HTk:=Aside0.mk hT
        have HF:=Aside0.mk hf
        clear hDo hT hf
        go_wp2_with (first|(go_at_call 38;(with_reducible refine HFR.out.mono ?_);rintro e w2 ⟨rfl,hb⟩;have HB2:=Aside0.mk (below_step (below_alloc (Below.refl _ _) (.cells #[.int .i64 x.f0, .int .i64 x.f1, .int .i64 x.f2.f0, .int .i64 x.f2.f1, .slice A4 x.f2.f2.length c4, .int .i64 x.f3.f0, .int .i64 x.f3.f1, .int .i64 x.f3.f2, .slice A8 x.f3.f3.length c8, .slice A9 x.f3.f4.length c9] 45)) hb);have HR2:=Aside0.mk (HR1.out.below hb);have HX2:=Aside0.mk (HX.out.below hb);have HCt:=Aside0.mk (Kd.R_reads' HR2.out.2.2.1).2;clear hb;clear HR1 HX HFR zz0 zz1 zz2 zz3 yy0 yy1 x0 x1 x2 x3 x4 x5 x6 x7 x8 x9;have p0:w2.cell? ⟨w.heap.size,0,none⟩=some (.int .i64 fl):=(blk_cell HR2.out.2.1.head 0).trans rfl;have p1:w2.cell? ⟨w.heap.size,1,none⟩=some (.slice At tr.length ct):=(blk_cell HR2.out.2.1.head 1).trans rfl;have q0:w2.cell? ⟨wr.heap.size,0,none⟩=some (.int .i64 x.f0):=(blk_cell HX2.out.head 0).trans rfl;have q1:w2.cell? ⟨wr.heap.size,1,none⟩=some (.int .i64 x.f1):=(blk_cell HX2.out.head 1).trans rfl;have q2:w2.cell? ⟨wr.heap.size,2,none⟩=some (.int .i64 x.f2.f0):=(blk_cell HX2.out.head 2).trans rfl;have q3:w2.cell? ⟨wr.heap.size,3,none⟩=some (.int .i64 x.f2.f1):=(blk_cell HX2.out.head 3).trans rfl;have q4:w2.cell? ⟨wr.heap.size,4,none⟩=some (.slice A4 x.f2.f2.length c4):=(blk_cell HX2.out.head 4).trans rfl;have q5:w2.cell? ⟨wr.heap.size,5,none⟩=some (.int .i64 x.f3.f0):=(blk_cell HX2.out.head 5).trans rfl;have q6:w2.cell? ⟨wr.heap.size,6,none⟩=some (.int .i64 x.f3.f1):=(blk_cell HX2.out.head 6).trans rfl;have q7:w2.cell? ⟨wr.heap.size,7,none⟩=some (.int .i64 x.f3.f2):=(blk_cell HX2.out.head 7).trans rfl;have q8:w2.cell? ⟨wr.heap.size,8,none⟩=some (.slice A8 x.f3.f3.length c8):=(blk_cell HX2.out.head 8).trans rfl;have q9:w2.cell? ⟨wr.heap.size,9,none⟩=some (.slice A9 x.f3.f4.length c9):=(blk_cell HX2.out.head 9).trans rfl)|(go_at_call 18;(with_reducible refine (speech_Do.calls kq fl At ct tr x.f2.f0 x.f2.f1 A4 c4 x.f2.f2 _ HCt.out.2 HCt.out.1 (Kd.C_below H4.out.2 HB2.out) H4.out.1 a HDo.out).mono ?_);rintro e w3 ⟨v1,v5,v6,rfl,hv,h5,h6,hb⟩;have HN:=Aside0.mk (show Kd.R Kd.string 9 w3 wB.heap.size (fun _=>True) v1 a.2.1 from hv.elim (fun h=>by rw [h.1,h.2];exact Kd.R_below HR2.out.2.2.1 hb) (fun h=>Kd.R_lower h HR2.out.1.2.2.2.1.size));have HR3:=Aside0.mk (HR2.out.below hb);have HX3:=Aside0.mk (HX2.out.below hb);have HB3:=Aside0.mk (below_step HB2.out hb);have H5:=Aside0.mk h5;have H6:=Aside0.mk h6;clear HCt hb hv h5 h6 p0 p1 q0 q1 q2 q3 q4 q5 q6 q7 q8 q9;obtain ⟨An,cn,rfl⟩:=Kd.R_slice HN.out;obtain ⟨Af,cf,rfl⟩:=Kd.R_slice H5.out;obtain ⟨Am,cm,rfl⟩:=Kd.R_slice H6.out))
        have HX4:=Aside0.mk ((HX3.out.cons2 w3.heap.size rfl #[.int .i64 a.1, .slice An a.2.1.length cn] 36 (by decide) (by decide) (by decide)).cons2 (w3.heap.size+1) (by simp) #[.int .i64 a.2.2.1, .int .i64 a.2.2.2.1, .int .i64 a.2.2.2.2.1, .slice Af a.2.2.2.2.2.1.length cf, .slice Am a.2.2.2.2.2.2.length cm] 39 (by decide) (by decide) (by decide))
        have hb4:=below_alloc (below_alloc (Below.refl w3.heap.size w3) (.cells #[.int .i64 a.1, .slice An a.2.1.length cn] 36)) (.cells #[.int .i64 a.2.2.1, .int .i64 a.2.2.2.1, .int .i64 a.2.2.2.2.1, .slice Af a.2.2.2.2.2.1.length cf, .slice Am a.2.2.2.2.2.2.length cm] 39)
        have HR4:=Aside0.mk (HR3.out.below hb4)
        have HB4:=Aside0.mk (below_step HB3.out hb4)
        have HN4:=Aside0.mk (Kd.R_below HN.out hb4)
        have H54:=Aside0.mk (Kd.R_below H5.out hb4)
        have H64:=Aside0.mk (Kd.R_below H6.out hb4)
        clear hb4 HR3 HX3 HB3 HN H5 H6 HR2 HX2 HB2
        generalize (w3.alloc (.cells #[.int .i64 a.1, .slice An a.2.1.length cn] 36)).alloc (.cells #[.int .i64 a.2.2.1, .int .i64 a.2.2.2.1, .int .i64 a.2.2.2.2.1, .slice Af a.2.2.2.2.2.1.length cf, .slice Am a.2.2.2.2.2.2.length cm] 39)=w4 at HX4 HR4 HB4 HN4 H54 H64 ⊢
        have HID:=Aside0.mk (idle_calls g (some ad) c0 l (some ⟨gd,0,none⟩) c1 dn left v3c w4 HR4.out.1.fst i hi)
        rw [HXe.out] at HID
        by_cases hid:idleB x=true
        ·rw [hid] at HID
         have hT:=HTk.out
         unfold takeF at hT
         rw [if_pos hid] at hT
         have hT:=Option.some.inj hT
         clear hid
         have HCH:=Aside0.mk (show speech_changes.f x.f2.f0 x.f2.f1 x.f2.f2=some (x.f2.f0 == 1 || x.f2.f0 == 5) by
          unfold speech_changes.f
          by_cases h:x.f2.f0=1
          ·simp [h]
          ·simp [h])
         generalize (x.f2.f0 == 1 || x.f2.f0 == 5)=bch at hT HCH
         cases bch with
         |false=>
          obtain rfl:t=false:=by simpa using hT.symm
          have hf:=HF.out
          rw [if_pos rfl] at hf
          clear HF hT
          have HF:=Aside0.mk hf
          clear hf
          go_wp2_with (first|(go_at_call 39;(with_reducible refine HID.out.mono ?_);rintro e w5 ⟨rfl,hb⟩;have HR5:=Aside0.mk (HR4.out.below hb);have HX5:=Aside0.mk (HX4.out.below hb);have HB5:=Aside0.mk (below_step HB4.out hb);have HN5:=Aside0.mk (Kd.R_below HN4.out hb);have H55:=Aside0.mk (Kd.R_below H54.out hb);have H65:=Aside0.mk (Kd.R_below H64.out hb);clear hb HR4 HX4 HB4 HN4 H54 H64;have q0:w5.cell? ⟨wr.heap.size,0,none⟩=some (.int .i64 x.f0):=(blk_cell HX5.out.tail.tail.head 0).trans rfl;have q1:w5.cell? ⟨wr.heap.size,1,none⟩=some (.int .i64 x.f1):=(blk_cell HX5.out.tail.tail.head 1).trans rfl;have q2:w5.cell? ⟨wr.heap.size,2,none⟩=some (.int .i64 x.f2.f0):=(blk_cell HX5.out.tail.tail.head 2).trans rfl;have q3:w5.cell? ⟨wr.heap.size,3,none⟩=some (.int .i64 x.f2.f1):=(blk_cell HX5.out.tail.tail.head 3).trans rfl;have q4:w5.cell? ⟨wr.heap.size,4,none⟩=some (.slice A4 x.f2.f2.length c4):=(blk_cell HX5.out.tail.tail.head 4).trans rfl;have q5:w5.cell? ⟨wr.heap.size,5,none⟩=some (.int .i64 x.f3.f0):=(blk_cell HX5.out.tail.tail.head 5).trans rfl;have q6:w5.cell? ⟨wr.heap.size,6,none⟩=some (.int .i64 x.f3.f1):=(blk_cell HX5.out.tail.tail.head 6).trans rfl;have q7:w5.cell? ⟨wr.heap.size,7,none⟩=some (.int .i64 x.f3.f2):=(blk_cell HX5.out.tail.tail.head 7).trans rfl;have q8:w5.cell? ⟨wr.heap.size,8,none⟩=some (.slice A8 x.f3.f3.length c8):=(blk_cell HX5.out.tail.tail.head 8).trans rfl;have q9:w5.cell? ⟨wr.heap.size,9,none⟩=some (.slice A9 x.f3.f4.length c9):=(blk_cell HX5.out.tail.tail.head 9).trans rfl;have a0:w5.cell? ⟨w3.heap.size+1,0,none⟩=some (.int .i64 a.2.2.1):=(blk_cell HX5.out.head 0).trans rfl;have a1:w5.cell? ⟨w3.heap.size+1,1,none⟩=some (.int .i64 a.2.2.2.1):=(blk_cell HX5.out.head 1).trans rfl;have a2:w5.cell? ⟨w3.heap.size+1,2,none⟩=some (.int .i64 a.2.2.2.2.1):=(blk_cell HX5.out.head 2).trans rfl;have a3:w5.cell? ⟨w3.heap.size+1,3,none⟩=some (.slice Af a.2.2.2.2.2.1.length cf):=(blk_cell HX5.out.head 3).trans rfl;have a4:w5.cell? ⟨w3.heap.size+1,4,none⟩=some (.slice Am a.2.2.2.2.2.2.length cm):=(blk_cell HX5.out.head 4).trans rfl)|(go_at_call 54;(with_reducible refine (speech_changes.calls x.f2.f0 x.f2.f1 A4 c4 x.f2.f2 _ _ (Kd.C_below H4.out.2 HB5.out) H4.out.1 HCH.out).mono ?_);rintro e w6 ⟨rfl,hb⟩;have HR6:=Aside0.mk (HR5.out.below hb);have HX6:=Aside0.mk (HX5.out.below hb);have HB6:=Aside0.mk (below_step HB5.out hb);have HN6:=Aside0.mk (Kd.R_below HN5.out hb);have H56:=Aside0.mk (Kd.R_below H55.out hb);have H66:=Aside0.mk (Kd.R_below H65.out hb);clear hb HR5 HX5 HB5 HN5 H55 H65;clear q0 q1 q2 q3 q4 q5 q6 q7 q8 q9 a0 a1 a2 a3 a4;have q0:w6.cell? ⟨wr.heap.size,0,none⟩=some (.int .i64 x.f0):=(blk_cell HX6.out.tail.tail.head 0).trans rfl;have q1:w6.cell? ⟨wr.heap.size,1,none⟩=some (.int .i64 x.f1):=(blk_cell HX6.out.tail.tail.head 1).trans rfl;have q2:w6.cell? ⟨wr.heap.size,2,none⟩=some (.int .i64 x.f2.f0):=(blk_cell HX6.out.tail.tail.head 2).trans rfl;have q3:w6.cell? ⟨wr.heap.size,3,none⟩=some (.int .i64 x.f2.f1):=(blk_cell HX6.out.tail.tail.head 3).trans rfl;have q4:w6.cell? ⟨wr.heap.size,4,none⟩=some (.slice A4 x.f2.f2.length c4):=(blk_cell HX6.out.tail.tail.head 4).trans rfl;have q5:w6.cell? ⟨wr.heap.size,5,none⟩=some (.int .i64 x.f3.f0):=(blk_cell HX6.out.tail.tail.head 5).trans rfl;have q6:w6.cell? ⟨wr.heap.size,6,none⟩=some (.int .i64 x.f3.f1):=(blk_cell HX6.out.tail.tail.head 6).trans rfl;have q7:w6.cell? ⟨wr.heap.size,7,none⟩=some (.int .i64 x.f3.f2):=(blk_cell HX6.out.tail.tail.head 7).trans rfl;have q8:w6.cell? ⟨wr.heap.size,8,none⟩=some (.slice A8 x.f3.f3.length c8):=(blk_cell HX6.out.tail.tail.head 8).trans rfl;have q9:w6.cell? ⟨wr.heap.size,9,none⟩=some (.slice A9 x.f3.f4.length c9):=(blk_cell HX6.out.tail.tail.head 9).trans rfl;have a0:w6.cell? ⟨w3.heap.size+1,0,none⟩=some (.int .i64 a.2.2.1):=(blk_cell HX6.out.head 0).trans rfl;have a1:w6.cell? ⟨w3.heap.size+1,1,none⟩=some (.int .i64 a.2.2.2.1):=(blk_cell HX6.out.head 1).trans rfl;have a2:w6.cell? ⟨w3.heap.size+1,2,none⟩=some (.int .i64 a.2.2.2.2.1):=(blk_cell HX6.out.head 2).trans rfl;have a3:w6.cell? ⟨w3.heap.size+1,3,none⟩=some (.slice Af a.2.2.2.2.2.1.length cf):=(blk_cell HX6.out.head 3).trans rfl;have a4:w6.cell? ⟨w3.heap.size+1,4,none⟩=some (.slice Am a.2.2.2.2.2.2.length cm):=(blk_cell HX6.out.head 4).trans rfl))
          go_roundg (l.length - i)
          case measure=>have:=HG.out.2;omega
          case rel=>exact ⟨i+1,kq,dn,left,v3c,od,by go_num,⟨by have:=HG.out;omega⟩,⟨by have:=HKq.out;omega,HF.out⟩,HR6⟩
         |true=>
          rw [Bool.true_and] at hT
          by_cases he:a.2.2.1=0
          ·have heb:(a.2.2.1 == 0)=true:=beq_iff_eq.mpr he
           have hec:(a.2.2.1 != 0)=false:=bne_eq_false_iff_eq.mpr he
           obtain rfl:t=true:=by rw [← hT];exact heb
           clear he hT
           have hf:=HF.out
           rw [if_neg (by decide)] at hf
           clear HF
           by_cases hL:od.length < 1000000000000
           ·rw [if_pos hL] at hf
            have HLo:=Aside0.mk hL
            clear hL
            obtain ⟨⟨rb,rdn,rl,ro⟩,hfi,hf⟩:=Option.bind_eq_some_iff.mp hf
            obtain ⟨y,hy⟩: ∃y:List Int,y=od++[(i:Int)]:=⟨_,rfl⟩
            rw [← hy] at hfi
            have HY:=Aside0.mk hy
            have HFI:=Aside0.mk hfi
            clear hy hfi
            cases rb with
            |true=>
             rw [if_pos rfl] at hf
             obtain rfl:=Option.some.inj hf
             clear hf
             go_wp2_with (first|(go_at_call 39;(with_reducible refine HID.out.mono ?_);rintro e w5 ⟨rfl,hb⟩;have HR5:=Aside0.mk (HR4.out.below hb);have HX5:=Aside0.mk (HX4.out.below hb);have HB5:=Aside0.mk (below_step HB4.out hb);have HN5:=Aside0.mk (Kd.R_below HN4.out hb);have H55:=Aside0.mk (Kd.R_below H54.out hb);have H65:=Aside0.mk (Kd.R_below H64.out hb);clear hb HR4 HX4 HB4 HN4 H54 H64;have q0:w5.cell? ⟨wr.heap.size,0,none⟩=some (.int .i64 x.f0):=(blk_cell HX5.out.tail.tail.head 0).trans rfl;have q1:w5.cell? ⟨wr.heap.size,1,none⟩=some (.int .i64 x.f1):=(blk_cell HX5.out.tail.tail.head 1).trans rfl;have q2:w5.cell? ⟨wr.heap.size,2,none⟩=some (.int .i64 x.f2.f0):=(blk_cell HX5.out.tail.tail.head 2).trans rfl;have q3:w5.cell? ⟨wr.heap.size,3,none⟩=some (.int .i64 x.f2.f1):=(blk_cell HX5.out.tail.tail.head 3).trans rfl;have q4:w5.cell? ⟨wr.heap.size,4,none⟩=some (.slice A4 x.f2.f2.length c4):=(blk_cell HX5.out.tail.tail.head 4).trans rfl;have q5:w5.cell? ⟨wr.heap.size,5,none⟩=some (.int .i64 x.f3.f0):=(blk_cell HX5.out.tail.tail.head 5).trans rfl;have q6:w5.cell? ⟨wr.heap.size,6,none⟩=some (.int .i64 x.f3.f1):=(blk_cell HX5.out.tail.tail.head 6).trans rfl;have q7:w5.cell? ⟨wr.heap.size,7,none⟩=some (.int .i64 x.f3.f2):=(blk_cell HX5.out.tail.tail.head 7).trans rfl;have q8:w5.cell? ⟨wr.heap.size,8,none⟩=some (.slice A8 x.f3.f3.length c8):=(blk_cell HX5.out.tail.tail.head 8).trans rfl;have q9:w5.cell? ⟨wr.heap.size,9,none⟩=some (.slice A9 x.f3.f4.length c9):=(blk_cell HX5.out.tail.tail.head 9).trans rfl;have a0:w5.cell? ⟨w3.heap.size+1,0,none⟩=some (.int .i64 a.2.2.1):=(blk_cell HX5.out.head 0).trans rfl;have a1:w5.cell? ⟨w3.heap.size+1,1,none⟩=some (.int .i64 a.2.2.2.1):=(blk_cell HX5.out.head 1).trans rfl;have a2:w5.cell? ⟨w3.heap.size+1,2,none⟩=some (.int .i64 a.2.2.2.2.1):=(blk_cell HX5.out.head 2).trans rfl;have a3:w5.cell? ⟨w3.heap.size+1,3,none⟩=some (.slice Af a.2.2.2.2.2.1.length cf):=(blk_cell HX5.out.head 3).trans rfl;have a4:w5.cell? ⟨w3.heap.size+1,4,none⟩=some (.slice Am a.2.2.2.2.2.2.length cm):=(blk_cell HX5.out.head 4).trans rfl)|(go_at_call 54;(with_reducible refine (speech_changes.calls x.f2.f0 x.f2.f1 A4 c4 x.f2.f2 _ _ (Kd.C_below H4.out.2 HB5.out) H4.out.1 HCH.out).mono ?_);rintro e w6 ⟨rfl,hb⟩;have HR6:=Aside0.mk (HR5.out.below hb);have HX6:=Aside0.mk (HX5.out.below hb);have HB6:=Aside0.mk (below_step HB5.out hb);have HN6:=Aside0.mk (Kd.R_below HN5.out hb);have H56:=Aside0.mk (Kd.R_below H55.out hb);have H66:=Aside0.mk (Kd.R_below H65.out hb);clear hb HR5 HX5 HB5 HN5 H55 H65;clear q0 q1 q2 q3 q4 q5 q6 q7 q8 q9 a0 a1 a2 a3 a4;obtain ⟨A3,c3,rfl⟩:=Kd.R_slice HR6.out.1.2.2.2.2.2.2.1;obtain ⟨g0,g1,g2,g3⟩:=HR6.out.1.cells;have f3:=blk_frozen HR6.out.1.1 3;obtain ⟨d0,d1⟩:=Kd.R_celln (enc:=Value.bool) (h1:=fun _=>rfl) false HR6.out.1.2.2.2.2.2.1 (i:Int) (by omega) (by omega);rw [Int.toNat_natCast] at d0 d1;have hne:g≠gd:=fun e=>Kd.R_ne HR6.out.1.2.2.2.2.2.1 HR6.out.1.1 (by decide) (by rw [e];rfl);have hne2:gd≠g:=fun e=>hne e.symm;have q0:w6.cell? ⟨wr.heap.size,0,none⟩=some (.int .i64 x.f0):=(blk_cell HX6.out.tail.tail.head 0).trans rfl;have q1:w6.cell? ⟨wr.heap.size,1,none⟩=some (.int .i64 x.f1):=(blk_cell HX6.out.tail.tail.head 1).trans rfl;have q2:w6.cell? ⟨wr.heap.size,2,none⟩=some (.int .i64 x.f2.f0):=(blk_cell HX6.out.tail.tail.head 2).trans rfl;have q3:w6.cell? ⟨wr.heap.size,3,none⟩=some (.int .i64 x.f2.f1):=(blk_cell HX6.out.tail.tail.head 3).trans rfl;have q4:w6.cell? ⟨wr.heap.size,4,none⟩=some (.slice A4 x.f2.f2.length c4):=(blk_cell HX6.out.tail.tail.head 4).trans rfl;have q5:w6.cell? ⟨wr.heap.size,5,none⟩=some (.int .i64 x.f3.f0):=(blk_cell HX6.out.tail.tail.head 5).trans rfl;have q6:w6.cell? ⟨wr.heap.size,6,none⟩=some (.int .i64 x.f3.f1):=(blk_cell HX6.out.tail.tail.head 6).trans rfl;have q7:w6.cell? ⟨wr.heap.size,7,none⟩=some (.int .i64 x.f3.f2):=(blk_cell HX6.out.tail.tail.head 7).trans rfl;have q8:w6.cell? ⟨wr.heap.size,8,none⟩=some (.slice A8 x.f3.f3.length c8):=(blk_cell HX6.out.tail.tail.head 8).trans rfl;have q9:w6.cell? ⟨wr.heap.size,9,none⟩=some (.slice A9 x.f3.f4.length c9):=(blk_cell HX6.out.tail.tail.head 9).trans rfl;have a0:w6.cell? ⟨w3.heap.size+1,0,none⟩=some (.int .i64 a.2.2.1):=(blk_cell HX6.out.head 0).trans rfl;have a1:w6.cell? ⟨w3.heap.size+1,1,none⟩=some (.int .i64 a.2.2.2.1):=(blk_cell HX6.out.head 1).trans rfl;have a2:w6.cell? ⟨w3.heap.size+1,2,none⟩=some (.int .i64 a.2.2.2.2.1):=(blk_cell HX6.out.head 2).trans rfl;have a3:w6.cell? ⟨w3.heap.size+1,3,none⟩=some (.slice Af a.2.2.2.2.2.1.length cf):=(blk_cell HX6.out.head 3).trans rfl;have a4:w6.cell? ⟨w3.heap.size+1,4,none⟩=some (.slice Am a.2.2.2.2.2.2.length cm):=(blk_cell HX6.out.head 4).trans rfl)|((with_reducible refine gate_dst (N:=93) rfl ?_);have hK7:Kept w6 (w6.setCell ⟨gd,i,none⟩ (.bool true)) (FS g (.slice (some ⟨gd,0,none⟩) l.length c1) (.slice A3 od.length c3)):=(Kept.refl w6 _).setCell (.inl (.inr (.inl rfl))) _;have HR7:=Aside0.mk (HR6.out.go (HR6.out.1.setDone i true HGD.out) hK7 (fun k hk=> .inl hk.symm));have HX7:=Aside0.mk (HX6.out.kept HR6.out.1 hK7);have HN7:=Aside0.mk (HR6.out.1.keep_row HN6.out (by decide) hK7);clear hK7 HR6 HX6 HN6 HB6 g0 g1 g2 g3 f3 d0 d1;refine Kd.R_lit (Kd.int .i64) (w0:=wB) wB.heap.size 3 ?hg (N:=93) ?hd (xs:=([(i:Int)]:List Int)) (inner:=[.int .i64 i]) (ok:=fun _=>True) (okp:=fun _=>True) ?hr ?hp (fun _ hk=>hk) trivial HR7.out.1.2.2.2.1 HR7.out.1.2.2.2.1.size (by simp) ?_;(case hd=>rfl);(case hg=>rfl);(case hr=>first|(go_simp;done)|(go_simp;rfl));(case hp=>exact (Reps.one (show Kd.M (Kd.int .i64) _ _ _ (i:Int) [.int .i64 i] from rfl) (Reps.none _ _)));intro v9 w8 g9 hb hg_ hnew_;have hb8:=below_grown hg_;have HR8:=Aside0.mk (HR7.out.below hb8);have HX8:=Aside0.mk (HX7.out.below hb8);have HN8:=Aside0.mk (Kd.R_below HN7.out hb8);have HL8:=Aside0.mk g9;clear g9 hb hg_ hnew_ hb8 HR7 HX7 HN7;obtain ⟨A9_,c9_,rfl⟩:=Kd.R_slice HL8.out)|((with_reducible refine gate_builtin (b:= .append) (xs:=#[.tmp 91, .tmp 93]) rfl ?_);at_builtin;refine Kd.R_append_rows (Kd.int .i64) (w0:=wB) wB.heap.size rfl (.tmp 91) (.tmp 93) 23 3 (.int .i64 0) 8 rfl Tryd.underlying23 info3 rfl (by decide) (by omega) (.slice A3 od.length c3) od [(i:Int)] _ _ _ (fun _=>True) (fun _=>False) rfl rfl HR8.out.1.2.2.2.2.2.2.1 ?aR (fun _ _ h=>h) (fun _ h=>h.elim) (fun _ _=>trivial) HR8.out.1.2.2.2.1 HR8.out.1.2.2.2.1.size ?aL ?_;(case aR=>exact (Kd.R_reads' HL8.out).2.2);(case aL=>have:=HLo.out;show (od.length+1)*8≤_;omega);intro v3n w9 ho hb hg hat;rw [← HY.out] at ho;obtain ⟨An3,cn3,rfl⟩:=Kd.R_slice ho;have gg:=blk_grown HR8.out.1.1 hg (Kd.R_ne HR8.out.1.2.2.2.2.2.2.1 HR8.out.1.1 (by decide));have hK:Kept w8 (w9.setCell ⟨g,3,none⟩ (.slice An3 y.length cn3)) (FS g (.slice (some ⟨gd,0,none⟩) l.length c1) (.slice A3 od.length c3)):=(Kept.of_grown hg (Kept.refl w8 _) (fun k h=> .inl (.inr (.inr h.symm)))).setCell (.inl (.inl rfl)) _;have HR10:=Aside0.mk (HR8.out.go (Fnd.setOrd HR8.out.1 hg hb ho) hK (fun k hk=>hat.elim (fun e=> .inl (by rw [← e,hk])) (fun ⟨b,e,hle⟩=> .inr (by rw [e] at hk;injection hk with hk;omega))));have HX10:=Aside0.mk (HX8.out.kept HR8.out.1 hK);have HN10:=Aside0.mk (HR8.out.1.keep_row HN8.out (by decide) hK);have e3:w9.cell? ⟨g,3,none⟩=some (.slice A3 od.length c3):=(blk_cell gg 3).trans rfl;have ef3:=blk_frozen gg 3;have e0:(w9.setCell ⟨g,3,none⟩ (.slice An3 y.length cn3)).cell? ⟨w3.heap.size,0,none⟩=some (.int .i64 a.1):=(blk_cell HX10.out.tail.head 0).trans rfl;have e1:(w9.setCell ⟨g,3,none⟩ (.slice An3 y.length cn3)).cell? ⟨w3.heap.size,1,none⟩=some (.slice An a.2.1.length cn):=(blk_cell HX10.out.tail.head 1).trans rfl;have en:w3.heap.size≠g:=fun e=>(by have h_:=HX10.out.tail.head;rw [e,HR10.out.1.1] at h_;simp at h_);have en2:g≠w3.heap.size:=fun e=>en e.symm;have HRF:=Aside0.mk HR10.out.1;clear ho hb hg hat gg hK HR8 HX8 HN8 HL8)|(go_at_call 37;(with_reducible refine (HIH.out kq (by have:=HKq.out;omega) wB g _ c0 l _ c1 (dn.set i true) left _ y a.1 An cn a.2.1 _ _ HFI.out HRF.out HN10.out).mono ?_);rintro e w12 ⟨v3f,rfl,hF,hK,hv⟩;have HR12:=Aside0.mk (HR10.out.go hF hK hv);clear hF hK hv HR10 HX10 HN10 HRF q0 q1 q2 q3 q4 q5 q6 q7 q8 q9))
             (try rw [Exit.noGoto_ret])
             go_ret
             exact ⟨v3f,rfl,HR12.out.1,HR12.out.2.2.2.1,HR12.out.2.2.2.2⟩
            |false=>
             replace hf:(if 1≤ro.length then find.l0 kq l (rdn.set i false) rl (ro.take (ro.length - 1)) fl tr (i+1) else none)=some r:=hf
             by_cases h1:1≤ro.length
             ·rw [if_pos h1] at hf
              have HF:=Aside0.mk hf
              have H1:=Aside0.mk h1
              clear hf h1
              go_wp2_with (first|(go_at_call 39;(with_reducible refine HID.out.mono ?_);rintro e w5 ⟨rfl,hb⟩;have HR5:=Aside0.mk (HR4.out.below hb);have HX5:=Aside0.mk (HX4.out.below hb);have HB5:=Aside0.mk (below_step HB4.out hb);have HN5:=Aside0.mk (Kd.R_below HN4.out hb);have H55:=Aside0.mk (Kd.R_below H54.out hb);have H65:=Aside0.mk (Kd.R_below H64.out hb);clear hb HR4 HX4 HB4 HN4 H54 H64;have q0:w5.cell? ⟨wr.heap.size,0,none⟩=some (.int .i64 x.f0):=(blk_cell HX5.out.tail.tail.head 0).trans rfl;have q1:w5.cell? ⟨wr.heap.size,1,none⟩=some (.int .i64 x.f1):=(blk_cell HX5.out.tail.tail.head 1).trans rfl;have q2:w5.cell? ⟨wr.heap.size,2,none⟩=some (.int .i64 x.f2.f0):=(blk_cell HX5.out.tail.tail.head 2).trans rfl;have q3:w5.cell? ⟨wr.heap.size,3,none⟩=some (.int .i64 x.f2.f1):=(blk_cell HX5.out.tail.tail.head 3).trans rfl;have q4:w5.cell? ⟨wr.heap.size,4,none⟩=some (.slice A4 x.f2.f2.length c4):=(blk_cell HX5.out.tail.tail.head 4).trans rfl;have q5:w5.cell? ⟨wr.heap.size,5,none⟩=some (.int .i64 x.f3.f0):=(blk_cell HX5.out.tail.tail.head 5).trans rfl;have q6:w5.cell? ⟨wr.heap.size,6,none⟩=some (.int .i64 x.f3.f1):=(blk_cell HX5.out.tail.tail.head 6).trans rfl;have q7:w5.cell? ⟨wr.heap.size,7,none⟩=some (.int .i64 x.f3.f2):=(blk_cell HX5.out.tail.tail.head 7).trans rfl;have q8:w5.cell? ⟨wr.heap.size,8,none⟩=some (.slice A8 x.f3.f3.length c8):=(blk_cell HX5.out.tail.tail.head 8).trans rfl;have q9:w5.cell? ⟨wr.heap.size,9,none⟩=some (.slice A9 x.f3.f4.length c9):=(blk_cell HX5.out.tail.tail.head 9).trans rfl;have a0:w5.cell? ⟨w3.heap.size+1,0,none⟩=some (.int .i64 a.2.2.1):=(blk_cell HX5.out.head 0).trans rfl;have a1:w5.cell? ⟨w3.heap.size+1,1,none⟩=some (.int .i64 a.2.2.2.1):=(blk_cell HX5.out.head 1).trans rfl;have a2:w5.cell? ⟨w3.heap.size+1,2,none⟩=some (.int .i64 a.2.2.2.2.1):=(blk_cell HX5.out.head 2).trans rfl;have a3:w5.cell? ⟨w3.heap.size+1,3,none⟩=some (.slice Af a.2.2.2.2.2.1.length cf):=(blk_cell HX5.out.head 3).trans rfl;have a4:w5.cell? ⟨w3.heap.size+1,4,none⟩=some (.slice Am a.2.2.2.2.2.2.length cm):=(blk_cell HX5.out.head 4).trans rfl)|(go_at_call 54;(with_reducible refine (speech_changes.calls x.f2.f0 x.f2.f1 A4 c4 x.f2.f2 _ _ (Kd.C_below H4.out.2 HB5.out) H4.out.1 HCH.out).mono ?_);rintro e w6 ⟨rfl,hb⟩;have HR6:=Aside0.mk (HR5.out.below hb);have HX6:=Aside0.mk (HX5.out.below hb);have HB6:=Aside0.mk (below_step HB5.out hb);have HN6:=Aside0.mk (Kd.R_below HN5.out hb);have H56:=Aside0.mk (Kd.R_below H55.out hb);have H66:=Aside0.mk (Kd.R_below H65.out hb);clear hb HR5 HX5 HB5 HN5 H55 H65;clear q0 q1 q2 q3 q4 q5 q6 q7 q8 q9 a0 a1 a2 a3 a4;obtain ⟨A3,c3,rfl⟩:=Kd.R_slice HR6.out.1.2.2.2.2.2.2.1;obtain ⟨g0,g1,g2,g3⟩:=HR6.out.1.cells;have f3:=blk_frozen HR6.out.1.1 3;obtain ⟨d0,d1⟩:=Kd.R_celln (enc:=Value.bool) (h1:=fun _=>rfl) false HR6.out.1.2.2.2.2.2.1 (i:Int) (by omega) (by omega);rw [Int.toNat_natCast] at d0 d1;have hne:g≠gd:=fun e=>Kd.R_ne HR6.out.1.2.2.2.2.2.1 HR6.out.1.1 (by decide) (by rw [e];rfl);have hne2:gd≠g:=fun e=>hne e.symm;have q0:w6.cell? ⟨wr.heap.size,0,none⟩=some (.int .i64 x.f0):=(blk_cell HX6.out.tail.tail.head 0).trans rfl;have q1:w6.cell? ⟨wr.heap.size,1,none⟩=some (.int .i64 x.f1):=(blk_cell HX6.out.tail.tail.head 1).trans rfl;have q2:w6.cell? ⟨wr.heap.size,2,none⟩=some (.int .i64 x.f2.f0):=(blk_cell HX6.out.tail.tail.head 2).trans rfl;have q3:w6.cell? ⟨wr.heap.size,3,none⟩=some (.int .i64 x.f2.f1):=(blk_cell HX6.out.tail.tail.head 3).trans rfl;have q4:w6.cell? ⟨wr.heap.size,4,none⟩=some (.slice A4 x.f2.f2.length c4):=(blk_cell HX6.out.tail.tail.head 4).trans rfl;have q5:w6.cell? ⟨wr.heap.size,5,none⟩=some (.int .i64 x.f3.f0):=(blk_cell HX6.out.tail.tail.head 5).trans rfl;have q6:w6.cell? ⟨wr.heap.size,6,none⟩=some (.int .i64 x.f3.f1):=(blk_cell HX6.out.tail.tail.head 6).trans rfl;have q7:w6.cell? ⟨wr.heap.size,7,none⟩=some (.int .i64 x.f3.f2):=(blk_cell HX6.out.tail.tail.head 7).trans rfl;have q8:w6.cell? ⟨wr.heap.size,8,none⟩=some (.slice A8 x.f3.f3.length c8):=(blk_cell HX6.out.tail.tail.head 8).trans rfl;have q9:w6.cell? ⟨wr.heap.size,9,none⟩=some (.slice A9 x.f3.f4.length c9):=(blk_cell HX6.out.tail.tail.head 9).trans rfl;have a0:w6.cell? ⟨w3.heap.size+1,0,none⟩=some (.int .i64 a.2.2.1):=(blk_cell HX6.out.head 0).trans rfl;have a1:w6.cell? ⟨w3.heap.size+1,1,none⟩=some (.int .i64 a.2.2.2.1):=(blk_cell HX6.out.head 1).trans rfl;have a2:w6.cell? ⟨w3.heap.size+1,2,none⟩=some (.int .i64 a.2.2.2.2.1):=(blk_cell HX6.out.head 2).trans rfl;have a3:w6.cell? ⟨w3.heap.size+1,3,none⟩=some (.slice Af a.2.2.2.2.2.1.length cf):=(blk_cell HX6.out.head 3).trans rfl;have a4:w6.cell? ⟨w3.heap.size+1,4,none⟩=some (.slice Am a.2.2.2.2.2.2.length cm):=(blk_cell HX6.out.head 4).trans rfl)|((with_reducible refine gate_dst (N:=93) rfl ?_);have hK7:Kept w6 (w6.setCell ⟨gd,i,none⟩ (.bool true)) (FS g (.slice (some ⟨gd,0,none⟩) l.length c1) (.slice A3 od.length c3)):=(Kept.refl w6 _).setCell (.inl (.inr (.inl rfl))) _;have HR7:=Aside0.mk (HR6.out.go (HR6.out.1.setDone i true HGD.out) hK7 (fun k hk=> .inl hk.symm));have HX7:=Aside0.mk (HX6.out.kept HR6.out.1 hK7);have HN7:=Aside0.mk (HR6.out.1.keep_row HN6.out (by decide) hK7);clear hK7 HR6 HX6 HN6 HB6 g0 g1 g2 g3 f3 d0 d1;refine Kd.R_lit (Kd.int .i64) (w0:=wB) wB.heap.size 3 ?hg (N:=93) ?hd (xs:=([(i:Int)]:List Int)) (inner:=[.int .i64 i]) (ok:=fun _=>True) (okp:=fun _=>True) ?hr ?hp (fun _ hk=>hk) trivial HR7.out.1.2.2.2.1 HR7.out.1.2.2.2.1.size (by simp) ?_;(case hd=>rfl);(case hg=>rfl);(case hr=>first|(go_simp;done)|(go_simp;rfl));(case hp=>exact (Reps.one (show Kd.M (Kd.int .i64) _ _ _ (i:Int) [.int .i64 i] from rfl) (Reps.none _ _)));intro v9 w8 g9 hb hg_ hnew_;have hb8:=below_grown hg_;have HR8:=Aside0.mk (HR7.out.below hb8);have HX8:=Aside0.mk (HX7.out.below hb8);have HN8:=Aside0.mk (Kd.R_below HN7.out hb8);have HL8:=Aside0.mk g9;clear g9 hb hg_ hnew_ hb8 HR7 HX7 HN7;obtain ⟨A9_,c9_,rfl⟩:=Kd.R_slice HL8.out)|((with_reducible refine gate_builtin (b:= .append) (xs:=#[.tmp 91, .tmp 93]) rfl ?_);at_builtin;refine Kd.R_append_rows (Kd.int .i64) (w0:=wB) wB.heap.size rfl (.tmp 91) (.tmp 93) 23 3 (.int .i64 0) 8 rfl Tryd.underlying23 info3 rfl (by decide) (by omega) (.slice A3 od.length c3) od [(i:Int)] _ _ _ (fun _=>True) (fun _=>False) rfl rfl HR8.out.1.2.2.2.2.2.2.1 ?aR (fun _ _ h=>h) (fun _ h=>h.elim) (fun _ _=>trivial) HR8.out.1.2.2.2.1 HR8.out.1.2.2.2.1.size ?aL ?_;(case aR=>exact (Kd.R_reads' HL8.out).2.2);(case aL=>have:=HLo.out;show (od.length+1)*8≤_;omega);intro v3n w9 ho hb hg hat;rw [← HY.out] at ho;obtain ⟨An3,cn3,rfl⟩:=Kd.R_slice ho;have gg:=blk_grown HR8.out.1.1 hg (Kd.R_ne HR8.out.1.2.2.2.2.2.2.1 HR8.out.1.1 (by decide));have hK:Kept w8 (w9.setCell ⟨g,3,none⟩ (.slice An3 y.length cn3)) (FS g (.slice (some ⟨gd,0,none⟩) l.length c1) (.slice A3 od.length c3)):=(Kept.of_grown hg (Kept.refl w8 _) (fun k h=> .inl (.inr (.inr h.symm)))).setCell (.inl (.inl rfl)) _;have HR10:=Aside0.mk (HR8.out.go (Fnd.setOrd HR8.out.1 hg hb ho) hK (fun k hk=>hat.elim (fun e=> .inl (by rw [← e,hk])) (fun ⟨b,e,hle⟩=> .inr (by rw [e] at hk;injection hk with hk;omega))));have HX10:=Aside0.mk (HX8.out.kept HR8.out.1 hK);have HN10:=Aside0.mk (HR8.out.1.keep_row HN8.out (by decide) hK);have e3:w9.cell? ⟨g,3,none⟩=some (.slice A3 od.length c3):=(blk_cell gg 3).trans rfl;have ef3:=blk_frozen gg 3;have e0:(w9.setCell ⟨g,3,none⟩ (.slice An3 y.length cn3)).cell? ⟨w3.heap.size,0,none⟩=some (.int .i64 a.1):=(blk_cell HX10.out.tail.head 0).trans rfl;have e1:(w9.setCell ⟨g,3,none⟩ (.slice An3 y.length cn3)).cell? ⟨w3.heap.size,1,none⟩=some (.slice An a.2.1.length cn):=(blk_cell HX10.out.tail.head 1).trans rfl;have en:w3.heap.size≠g:=fun e=>(by have h_:=HX10.out.tail.head;rw [e,HR10.out.1.1] at h_;simp at h_);have en2:g≠w3.heap.size:=fun e=>en e.symm;have HRF:=Aside0.mk HR10.out.1;clear ho hb hg hat gg hK HR8 HX8 HN8 HL8)|(go_at_call 37;(with_reducible refine (HIH.out kq (by have:=HKq.out;omega) wB g _ c0 l _ c1 (dn.set i true) left _ y a.1 An cn a.2.1 _ _ HFI.out HRF.out HN10.out).mono ?_);rintro e w12 ⟨v3f,rfl,hF,hK,hv⟩;have HR12:=Aside0.mk (HR10.out.go hF hK hv);obtain ⟨A5,c5,rfl⟩:=Kd.R_slice HR12.out.1.2.2.2.2.2.2.1;obtain ⟨g0,g1,g2,g3⟩:=HR12.out.1.cells;have f3:=blk_frozen HR12.out.1.1 3;clear hF hK hv HR10 HX10 HN10 HRF q0 q1 q2 q3 q4 q5 q6 q7 q8 q9))
              have hro:=Kd.C_max (Kd.R_reads' HR12.out.1.2.2.2.2.2.2.1).2.2
              have hrc:=(Kd.R_reads' HR12.out.1.2.2.2.2.2.2.1).2.1
              have ew:wrap64 ((ro.length:Int) - 1)=((ro.length - 1:Nat):Int):=by have:=H1.out;unfold wrap64;omega
              have ew0:=eq_true (show (0:Int)≤wrap64 ((ro.length:Int) - 1) by rw [ew];omega)
              have ewc:=eq_true (show wrap64 ((ro.length:Int) - 1)≤(c5:Int) by rw [ew];omega)
              have ewn:(wrap64 ((ro.length:Int) - 1)).toNat=ro.length - 1:=by rw [ew];omega
              have ev0:=eq_true (show (0:Int)≤IntKind.i64.wrap ((ro.length:Int) - 1) by rw [IntKind.wrap_i64];have h_:=ew0;unfold wrap64 at h_;exact of_eq_true h_)
              have evc:=eq_true (show IntKind.i64.wrap ((ro.length:Int) - 1)≤(c5:Int) by rw [IntKind.wrap_i64];have h_:=ewc;unfold wrap64 at h_;exact of_eq_true h_)
              have evn:(IntKind.i64.wrap ((ro.length:Int) - 1)).toNat=ro.length - 1:=by rw [IntKind.wrap_i64];have h_:=ewn;unfold wrap64 at h_;exact h_
              clear ew
              go_region
              all_goals
               have HRT:=Kd.R_take (m:=ro.length - 1) HR12.out.1.2.2.2.2.2.2.1 (by omega)
               obtain ⟨y,hy⟩: ∃y:List Int,y=ro.take (ro.length - 1):=⟨_,rfl⟩
               have hyl:ro.length - 1=y.length:=by rw [hy];simp
               rw [← hy] at HRT
               rw [hyl] at HRT ⊢
               have HF:=Aside0.mk (hy ▸ HF.out)
               have HR13:=Aside0.mk ((HR12.out.go (Fnd.setOrd HR12.out.1 (grown_refl _ _) HR12.out.1.2.2.2.1 HRT) ((Kept.refl w12 _).setCell (.inl (.inl rfl)) _) (fun k hk=> .inl (by cases A5<;>exact hk.symm))).below (below_drew (Below.refl _ _)))
               clear hy hyl HRT HR12 g0 g1 g2 g3 f3 ew0 ewc ewn ev0 evc evn hro hrc
               generalize (w12.setCell ⟨g,3,none⟩ (.slice A5 y.length c5)).drew=w13 at HR13 ⊢
               obtain ⟨g0,g1,g2,g3⟩:=HR13.out.1.cells
               obtain ⟨d0,d1⟩:=Kd.R_celln (enc:=Value.bool) (h1:=fun _=>rfl) false HR13.out.1.2.2.2.2.2.1 (i:Int) (by omega) (by omega)
               rw [Int.toNat_natCast] at d0 d1
               have HR14:=Aside0.mk (HR13.out.go (HR13.out.1.setDone i false HGD.out) ((Kept.refl w13 _).setCell (.inl (.inr (.inl rfl))) _) (fun k hk=> .inl hk.symm))
               go_wp2_with fail
               go_roundg (l.length - i)
               case measure=>have:=HG.out.2;omega
               case rel=>exact ⟨i+1,kq,(rdn.set i false),rl,_,y,by go_num,⟨by have:=HG.out;omega⟩,⟨by have:=HKq.out;omega,HF.out⟩,HR14⟩
             ·rw [if_neg h1] at hf
              exact absurd hf (by simp)
           ·rw [if_neg hL] at hf
            exact absurd hf (by simp)
          ·have heb:(a.2.2.1 == 0)=false:=beq_eq_false_iff_ne.mpr he
           have hec:(a.2.2.1 != 0)=true:=bne_iff_ne.mpr he
           obtain rfl:t=false:=by rw [← hT];exact heb
           have hf:=HF.out
           rw [if_pos rfl] at hf
           clear HF hT he
           have HF:=Aside0.mk hf
           clear hf
           go_wp2_with (first|(go_at_call 39;(with_reducible refine HID.out.mono ?_);rintro e w5 ⟨rfl,hb⟩;have HR5:=Aside0.mk (HR4.out.below hb);have HX5:=Aside0.mk (HX4.out.below hb);have HB5:=Aside0.mk (below_step HB4.out hb);have HN5:=Aside0.mk (Kd.R_below HN4.out hb);have H55:=Aside0.mk (Kd.R_below H54.out hb);have H65:=Aside0.mk (Kd.R_below H64.out hb);clear hb HR4 HX4 HB4 HN4 H54 H64;have q0:w5.cell? ⟨wr.heap.size,0,none⟩=some (.int .i64 x.f0):=(blk_cell HX5.out.tail.tail.head 0).trans rfl;have q1:w5.cell? ⟨wr.heap.size,1,none⟩=some (.int .i64 x.f1):=(blk_cell HX5.out.tail.tail.head 1).trans rfl;have q2:w5.cell? ⟨wr.heap.size,2,none⟩=some (.int .i64 x.f2.f0):=(blk_cell HX5.out.tail.tail.head 2).trans rfl;have q3:w5.cell? ⟨wr.heap.size,3,none⟩=some (.int .i64 x.f2.f1):=(blk_cell HX5.out.tail.tail.head 3).trans rfl;have q4:w5.cell? ⟨wr.heap.size,4,none⟩=some (.slice A4 x.f2.f2.length c4):=(blk_cell HX5.out.tail.tail.head 4).trans rfl;have q5:w5.cell? ⟨wr.heap.size,5,none⟩=some (.int .i64 x.f3.f0):=(blk_cell HX5.out.tail.tail.head 5).trans rfl;have q6:w5.cell? ⟨wr.heap.size,6,none⟩=some (.int .i64 x.f3.f1):=(blk_cell HX5.out.tail.tail.head 6).trans rfl;have q7:w5.cell? ⟨wr.heap.size,7,none⟩=some (.int .i64 x.f3.f2):=(blk_cell HX5.out.tail.tail.head 7).trans rfl;have q8:w5.cell? ⟨wr.heap.size,8,none⟩=some (.slice A8 x.f3.f3.length c8):=(blk_cell HX5.out.tail.tail.head 8).trans rfl;have q9:w5.cell? ⟨wr.heap.size,9,none⟩=some (.slice A9 x.f3.f4.length c9):=(blk_cell HX5.out.tail.tail.head 9).trans rfl;have a0:w5.cell? ⟨w3.heap.size+1,0,none⟩=some (.int .i64 a.2.2.1):=(blk_cell HX5.out.head 0).trans rfl;have a1:w5.cell? ⟨w3.heap.size+1,1,none⟩=some (.int .i64 a.2.2.2.1):=(blk_cell HX5.out.head 1).trans rfl;have a2:w5.cell? ⟨w3.heap.size+1,2,none⟩=some (.int .i64 a.2.2.2.2.1):=(blk_cell HX5.out.head 2).trans rfl;have a3:w5.cell? ⟨w3.heap.size+1,3,none⟩=some (.slice Af a.2.2.2.2.2.1.length cf):=(blk_cell HX5.out.head 3).trans rfl;have a4:w5.cell? ⟨w3.heap.size+1,4,none⟩=some (.slice Am a.2.2.2.2.2.2.length cm):=(blk_cell HX5.out.head 4).trans rfl)|(go_at_call 54;(with_reducible refine (speech_changes.calls x.f2.f0 x.f2.f1 A4 c4 x.f2.f2 _ _ (Kd.C_below H4.out.2 HB5.out) H4.out.1 HCH.out).mono ?_);rintro e w6 ⟨rfl,hb⟩;have HR6:=Aside0.mk (HR5.out.below hb);have HX6:=Aside0.mk (HX5.out.below hb);have HB6:=Aside0.mk (below_step HB5.out hb);have HN6:=Aside0.mk (Kd.R_below HN5.out hb);have H56:=Aside0.mk (Kd.R_below H55.out hb);have H66:=Aside0.mk (Kd.R_below H65.out hb);clear hb HR5 HX5 HB5 HN5 H55 H65;clear q0 q1 q2 q3 q4 q5 q6 q7 q8 q9 a0 a1 a2 a3 a4;have q0:w6.cell? ⟨wr.heap.size,0,none⟩=some (.int .i64 x.f0):=(blk_cell HX6.out.tail.tail.head 0).trans rfl;have q1:w6.cell? ⟨wr.heap.size,1,none⟩=some (.int .i64 x.f1):=(blk_cell HX6.out.tail.tail.head 1).trans rfl;have q2:w6.cell? ⟨wr.heap.size,2,none⟩=some (.int .i64 x.f2.f0):=(blk_cell HX6.out.tail.tail.head 2).trans rfl;have q3:w6.cell? ⟨wr.heap.size,3,none⟩=some (.int .i64 x.f2.f1):=(blk_cell HX6.out.tail.tail.head 3).trans rfl;have q4:w6.cell? ⟨wr.heap.size,4,none⟩=some (.slice A4 x.f2.f2.length c4):=(blk_cell HX6.out.tail.tail.head 4).trans rfl;have q5:w6.cell? ⟨wr.heap.size,5,none⟩=some (.int .i64 x.f3.f0):=(blk_cell HX6.out.tail.tail.head 5).trans rfl;have q6:w6.cell? ⟨wr.heap.size,6,none⟩=some (.int .i64 x.f3.f1):=(blk_cell HX6.out.tail.tail.head 6).trans rfl;have q7:w6.cell? ⟨wr.heap.size,7,none⟩=some (.int .i64 x.f3.f2):=(blk_cell HX6.out.tail.tail.head 7).trans rfl;have q8:w6.cell? ⟨wr.heap.size,8,none⟩=some (.slice A8 x.f3.f3.length c8):=(blk_cell HX6.out.tail.tail.head 8).trans rfl;have q9:w6.cell? ⟨wr.heap.size,9,none⟩=some (.slice A9 x.f3.f4.length c9):=(blk_cell HX6.out.tail.tail.head 9).trans rfl;have a0:w6.cell? ⟨w3.heap.size+1,0,none⟩=some (.int .i64 a.2.2.1):=(blk_cell HX6.out.head 0).trans rfl;have a1:w6.cell? ⟨w3.heap.size+1,1,none⟩=some (.int .i64 a.2.2.2.1):=(blk_cell HX6.out.head 1).trans rfl;have a2:w6.cell? ⟨w3.heap.size+1,2,none⟩=some (.int .i64 a.2.2.2.2.1):=(blk_cell HX6.out.head 2).trans rfl;have a3:w6.cell? ⟨w3.heap.size+1,3,none⟩=some (.slice Af a.2.2.2.2.2.1.length cf):=(blk_cell HX6.out.head 3).trans rfl;have a4:w6.cell? ⟨w3.heap.size+1,4,none⟩=some (.slice Am a.2.2.2.2.2.2.length cm):=(blk_cell HX6.out.head 4).trans rfl))
           go_roundg (l.length - i)
           case measure=>have:=HG.out.2;omega
           case rel=>exact ⟨i+1,kq,dn,left,v3c,od,by go_num,⟨by have:=HG.out;omega⟩,⟨by have:=HKq.out;omega,HF.out⟩,HR6⟩
        ·have hid:idleB x=false:=by simpa using hid
         rw [hid] at HID
         have hT:=HTk.out
         unfold takeF at hT
         rw [if_neg (by rw [hid];decide)] at hT
         have HSM:=Aside0.mk hT
         clear hT hid
         cases t with
         |false=>
          have hf:=HF.out
          rw [if_pos rfl] at hf
          clear HF
          have HF:=Aside0.mk hf
          clear hf
          go_wp2_with (first|(go_at_call 39;(with_reducible refine HID.out.mono ?_);rintro e w5 ⟨rfl,hb⟩;have HR5:=Aside0.mk (HR4.out.below hb);have HX5:=Aside0.mk (HX4.out.below hb);have HB5:=Aside0.mk (below_step HB4.out hb);have HN5:=Aside0.mk (Kd.R_below HN4.out hb);have H55:=Aside0.mk (Kd.R_below H54.out hb);have H65:=Aside0.mk (Kd.R_below H64.out hb);clear hb HR4 HX4 HB4 HN4 H54 H64;have q0:w5.cell? ⟨wr.heap.size,0,none⟩=some (.int .i64 x.f0):=(blk_cell HX5.out.tail.tail.head 0).trans rfl;have q1:w5.cell? ⟨wr.heap.size,1,none⟩=some (.int .i64 x.f1):=(blk_cell HX5.out.tail.tail.head 1).trans rfl;have q2:w5.cell? ⟨wr.heap.size,2,none⟩=some (.int .i64 x.f2.f0):=(blk_cell HX5.out.tail.tail.head 2).trans rfl;have q3:w5.cell? ⟨wr.heap.size,3,none⟩=some (.int .i64 x.f2.f1):=(blk_cell HX5.out.tail.tail.head 3).trans rfl;have q4:w5.cell? ⟨wr.heap.size,4,none⟩=some (.slice A4 x.f2.f2.length c4):=(blk_cell HX5.out.tail.tail.head 4).trans rfl;have q5:w5.cell? ⟨wr.heap.size,5,none⟩=some (.int .i64 x.f3.f0):=(blk_cell HX5.out.tail.tail.head 5).trans rfl;have q6:w5.cell? ⟨wr.heap.size,6,none⟩=some (.int .i64 x.f3.f1):=(blk_cell HX5.out.tail.tail.head 6).trans rfl;have q7:w5.cell? ⟨wr.heap.size,7,none⟩=some (.int .i64 x.f3.f2):=(blk_cell HX5.out.tail.tail.head 7).trans rfl;have q8:w5.cell? ⟨wr.heap.size,8,none⟩=some (.slice A8 x.f3.f3.length c8):=(blk_cell HX5.out.tail.tail.head 8).trans rfl;have q9:w5.cell? ⟨wr.heap.size,9,none⟩=some (.slice A9 x.f3.f4.length c9):=(blk_cell HX5.out.tail.tail.head 9).trans rfl;have a0:w5.cell? ⟨w3.heap.size+1,0,none⟩=some (.int .i64 a.2.2.1):=(blk_cell HX5.out.head 0).trans rfl;have a1:w5.cell? ⟨w3.heap.size+1,1,none⟩=some (.int .i64 a.2.2.2.1):=(blk_cell HX5.out.head 1).trans rfl;have a2:w5.cell? ⟨w3.heap.size+1,2,none⟩=some (.int .i64 a.2.2.2.2.1):=(blk_cell HX5.out.head 2).trans rfl;have a3:w5.cell? ⟨w3.heap.size+1,3,none⟩=some (.slice Af a.2.2.2.2.2.1.length cf):=(blk_cell HX5.out.head 3).trans rfl;have a4:w5.cell? ⟨w3.heap.size+1,4,none⟩=some (.slice Am a.2.2.2.2.2.2.length cm):=(blk_cell HX5.out.head 4).trans rfl)|(go_at_call 40;(with_reducible refine (speech_same.calls kq a.2.2.1 a.2.2.2.1 a.2.2.2.2.1 Af cf a.2.2.2.2.2.1 Am cm a.2.2.2.2.2.2 x.f3.f0 x.f3.f1 x.f3.f2 A8 c8 x.f3.f3 A9 c9 x.f3.f4 _ _ (Kd.R_reads' H55.out).2.2 (Kd.R_reads' H55.out).2.1 (Kd.R_reads' H65.out).2.2 (Kd.R_reads' H65.out).2.1 (Kd.C_below H8.out.2 HB5.out) H8.out.1 (Kd.C_below H9.out.2 HB5.out) H9.out.1 HSM.out).mono ?_);rintro e w6 ⟨rfl,hb⟩;have HR6:=Aside0.mk (HR5.out.below hb);have HX6:=Aside0.mk (HX5.out.below hb);have HB6:=Aside0.mk (below_step HB5.out hb);have HN6:=Aside0.mk (Kd.R_below HN5.out hb);have H56:=Aside0.mk (Kd.R_below H55.out hb);have H66:=Aside0.mk (Kd.R_below H65.out hb);clear hb HR5 HX5 HB5 HN5 H55 H65;clear q0 q1 q2 q3 q4 q5 q6 q7 q8 q9 a0 a1 a2 a3 a4))
          go_roundg (l.length - i)
          case measure=>have:=HG.out.2;omega
          case rel=>exact ⟨i+1,kq,dn,left,v3c,od,by go_num,⟨by have:=HG.out;omega⟩,⟨by have:=HKq.out;omega,HF.out⟩,HR6⟩
         |true=>
          have hf:=HF.out
          rw [if_neg (by decide)] at hf
          clear HF
          by_cases hL:od.length < 1000000000000
          ·rw [if_pos hL] at hf
           have HLo:=Aside0.mk hL
           clear hL
           obtain ⟨⟨rb,rdn,rl,ro⟩,hfi,hf⟩:=Option.bind_eq_some_iff.mp hf
           obtain ⟨y,hy⟩: ∃y:List Int,y=od++[(i:Int)]:=⟨_,rfl⟩
           rw [← hy] at hfi
           have HY:=Aside0.mk hy
           have HFI:=Aside0.mk hfi
           clear hy hfi
           cases rb with
           |true=>
            rw [if_pos rfl] at hf
            obtain rfl:=Option.some.inj hf
            clear hf
            go_wp2_with (first|(go_at_call 39;(with_reducible refine HID.out.mono ?_);rintro e w5 ⟨rfl,hb⟩;have HR5:=Aside0.mk (HR4.out.below hb);have HX5:=Aside0.mk (HX4.out.below hb);have HB5:=Aside0.mk (below_step HB4.out hb);have HN5:=Aside0.mk (Kd.R_below HN4.out hb);have H55:=Aside0.mk (Kd.R_below H54.out hb);have H65:=Aside0.mk (Kd.R_below H64.out hb);clear hb HR4 HX4 HB4 HN4 H54 H64;have q0:w5.cell? ⟨wr.heap.size,0,none⟩=some (.int .i64 x.f0):=(blk_cell HX5.out.tail.tail.head 0).trans rfl;have q1:w5.cell? ⟨wr.heap.size,1,none⟩=some (.int .i64 x.f1):=(blk_cell HX5.out.tail.tail.head 1).trans rfl;have q2:w5.cell? ⟨wr.heap.size,2,none⟩=some (.int .i64 x.f2.f0):=(blk_cell HX5.out.tail.tail.head 2).trans rfl;have q3:w5.cell? ⟨wr.heap.size,3,none⟩=some (.int .i64 x.f2.f1):=(blk_cell HX5.out.tail.tail.head 3).trans rfl;have q4:w5.cell? ⟨wr.heap.size,4,none⟩=some (.slice A4 x.f2.f2.length c4):=(blk_cell HX5.out.tail.tail.head 4).trans rfl;have q5:w5.cell? ⟨wr.heap.size,5,none⟩=some (.int .i64 x.f3.f0):=(blk_cell HX5.out.tail.tail.head 5).trans rfl;have q6:w5.cell? ⟨wr.heap.size,6,none⟩=some (.int .i64 x.f3.f1):=(blk_cell HX5.out.tail.tail.head 6).trans rfl;have q7:w5.cell? ⟨wr.heap.size,7,none⟩=some (.int .i64 x.f3.f2):=(blk_cell HX5.out.tail.tail.head 7).trans rfl;have q8:w5.cell? ⟨wr.heap.size,8,none⟩=some (.slice A8 x.f3.f3.length c8):=(blk_cell HX5.out.tail.tail.head 8).trans rfl;have q9:w5.cell? ⟨wr.heap.size,9,none⟩=some (.slice A9 x.f3.f4.length c9):=(blk_cell HX5.out.tail.tail.head 9).trans rfl;have a0:w5.cell? ⟨w3.heap.size+1,0,none⟩=some (.int .i64 a.2.2.1):=(blk_cell HX5.out.head 0).trans rfl;have a1:w5.cell? ⟨w3.heap.size+1,1,none⟩=some (.int .i64 a.2.2.2.1):=(blk_cell HX5.out.head 1).trans rfl;have a2:w5.cell? ⟨w3.heap.size+1,2,none⟩=some (.int .i64 a.2.2.2.2.1):=(blk_cell HX5.out.head 2).trans rfl;have a3:w5.cell? ⟨w3.heap.size+1,3,none⟩=some (.slice Af a.2.2.2.2.2.1.length cf):=(blk_cell HX5.out.head 3).trans rfl;have a4:w5.cell? ⟨w3.heap.size+1,4,none⟩=some (.slice Am a.2.2.2.2.2.2.length cm):=(blk_cell HX5.out.head 4).trans rfl)|(go_at_call 40;(with_reducible refine (speech_same.calls kq a.2.2.1 a.2.2.2.1 a.2.2.2.2.1 Af cf a.2.2.2.2.2.1 Am cm a.2.2.2.2.2.2 x.f3.f0 x.f3.f1 x.f3.f2 A8 c8 x.f3.f3 A9 c9 x.f3.f4 _ _ (Kd.R_reads' H55.out).2.2 (Kd.R_reads' H55.out).2.1 (Kd.R_reads' H65.out).2.2 (Kd.R_reads' H65.out).2.1 (Kd.C_below H8.out.2 HB5.out) H8.out.1 (Kd.C_below H9.out.2 HB5.out) H9.out.1 HSM.out).mono ?_);rintro e w6 ⟨rfl,hb⟩;have HR6:=Aside0.mk (HR5.out.below hb);have HX6:=Aside0.mk (HX5.out.below hb);have HB6:=Aside0.mk (below_step HB5.out hb);have HN6:=Aside0.mk (Kd.R_below HN5.out hb);have H56:=Aside0.mk (Kd.R_below H55.out hb);have H66:=Aside0.mk (Kd.R_below H65.out hb);clear hb HR5 HX5 HB5 HN5 H55 H65;clear q0 q1 q2 q3 q4 q5 q6 q7 q8 q9 a0 a1 a2 a3 a4;obtain ⟨A3,c3,rfl⟩:=Kd.R_slice HR6.out.1.2.2.2.2.2.2.1;obtain ⟨g0,g1,g2,g3⟩:=HR6.out.1.cells;have f3:=blk_frozen HR6.out.1.1 3;obtain ⟨d0,d1⟩:=Kd.R_celln (enc:=Value.bool) (h1:=fun _=>rfl) false HR6.out.1.2.2.2.2.2.1 (i:Int) (by omega) (by omega);rw [Int.toNat_natCast] at d0 d1;have hne:g≠gd:=fun e=>Kd.R_ne HR6.out.1.2.2.2.2.2.1 HR6.out.1.1 (by decide) (by rw [e];rfl);have hne2:gd≠g:=fun e=>hne e.symm)|((with_reducible refine gate_dst (N:=93) rfl ?_);have hK7:Kept w6 (w6.setCell ⟨gd,i,none⟩ (.bool true)) (FS g (.slice (some ⟨gd,0,none⟩) l.length c1) (.slice A3 od.length c3)):=(Kept.refl w6 _).setCell (.inl (.inr (.inl rfl))) _;have HR7:=Aside0.mk (HR6.out.go (HR6.out.1.setDone i true HGD.out) hK7 (fun k hk=> .inl hk.symm));have HX7:=Aside0.mk (HX6.out.kept HR6.out.1 hK7);have HN7:=Aside0.mk (HR6.out.1.keep_row HN6.out (by decide) hK7);clear hK7 HR6 HX6 HN6 HB6 g0 g1 g2 g3 f3 d0 d1;refine Kd.R_lit (Kd.int .i64) (w0:=wB) wB.heap.size 3 ?hg (N:=93) ?hd (xs:=([(i:Int)]:List Int)) (inner:=[.int .i64 i]) (ok:=fun _=>True) (okp:=fun _=>True) ?hr ?hp (fun _ hk=>hk) trivial HR7.out.1.2.2.2.1 HR7.out.1.2.2.2.1.size (by simp) ?_;(case hd=>rfl);(case hg=>rfl);(case hr=>first|(go_simp;done)|(go_simp;rfl));(case hp=>exact (Reps.one (show Kd.M (Kd.int .i64) _ _ _ (i:Int) [.int .i64 i] from rfl) (Reps.none _ _)));intro v9 w8 g9 hb hg_ hnew_;have hb8:=below_grown hg_;have HR8:=Aside0.mk (HR7.out.below hb8);have HX8:=Aside0.mk (HX7.out.below hb8);have HN8:=Aside0.mk (Kd.R_below HN7.out hb8);have HL8:=Aside0.mk g9;clear g9 hb hg_ hnew_ hb8 HR7 HX7 HN7;obtain ⟨A9_,c9_,rfl⟩:=Kd.R_slice HL8.out)|((with_reducible refine gate_builtin (b:= .append) (xs:=#[.tmp 91, .tmp 93]) rfl ?_);at_builtin;refine Kd.R_append_rows (Kd.int .i64) (w0:=wB) wB.heap.size rfl (.tmp 91) (.tmp 93) 23 3 (.int .i64 0) 8 rfl Tryd.underlying23 info3 rfl (by decide) (by omega) (.slice A3 od.length c3) od [(i:Int)] _ _ _ (fun _=>True) (fun _=>False) rfl rfl HR8.out.1.2.2.2.2.2.2.1 ?aR (fun _ _ h=>h) (fun _ h=>h.elim) (fun _ _=>trivial) HR8.out.1.2.2.2.1 HR8.out.1.2.2.2.1.size ?aL ?_;(case aR=>exact (Kd.R_reads' HL8.out).2.2);(case aL=>have:=HLo.out;show (od.length+1)*8≤_;omega);intro v3n w9 ho hb hg hat;rw [← HY.out] at ho;obtain ⟨An3,cn3,rfl⟩:=Kd.R_slice ho;have gg:=blk_grown HR8.out.1.1 hg (Kd.R_ne HR8.out.1.2.2.2.2.2.2.1 HR8.out.1.1 (by decide));have hK:Kept w8 (w9.setCell ⟨g,3,none⟩ (.slice An3 y.length cn3)) (FS g (.slice (some ⟨gd,0,none⟩) l.length c1) (.slice A3 od.length c3)):=(Kept.of_grown hg (Kept.refl w8 _) (fun k h=> .inl (.inr (.inr h.symm)))).setCell (.inl (.inl rfl)) _;have HR10:=Aside0.mk (HR8.out.go (Fnd.setOrd HR8.out.1 hg hb ho) hK (fun k hk=>hat.elim (fun e=> .inl (by rw [← e,hk])) (fun ⟨b,e,hle⟩=> .inr (by rw [e] at hk;injection hk with hk;omega))));have HX10:=Aside0.mk (HX8.out.kept HR8.out.1 hK);have HN10:=Aside0.mk (HR8.out.1.keep_row HN8.out (by decide) hK);have e3:w9.cell? ⟨g,3,none⟩=some (.slice A3 od.length c3):=(blk_cell gg 3).trans rfl;have ef3:=blk_frozen gg 3;have e0:(w9.setCell ⟨g,3,none⟩ (.slice An3 y.length cn3)).cell? ⟨w3.heap.size,0,none⟩=some (.int .i64 a.1):=(blk_cell HX10.out.tail.head 0).trans rfl;have e1:(w9.setCell ⟨g,3,none⟩ (.slice An3 y.length cn3)).cell? ⟨w3.heap.size,1,none⟩=some (.slice An a.2.1.length cn):=(blk_cell HX10.out.tail.head 1).trans rfl;have en:w3.heap.size≠g:=fun e=>(by have h_:=HX10.out.tail.head;rw [e,HR10.out.1.1] at h_;simp at h_);have en2:g≠w3.heap.size:=fun e=>en e.symm;have HRF:=Aside0.mk HR10.out.1;clear ho hb hg hat gg hK HR8 HX8 HN8 HL8)|(go_at_call 37;(with_reducible refine (HIH.out kq (by have:=HKq.out;omega) wB g _ c0 l _ c1 (dn.set i true) left _ y a.1 An cn a.2.1 _ _ HFI.out HRF.out HN10.out).mono ?_);rintro e w12 ⟨v3f,rfl,hF,hK,hv⟩;have HR12:=Aside0.mk (HR10.out.go hF hK hv);clear hF hK hv HR10 HX10 HN10 HRF))
            (try rw [Exit.noGoto_ret])
            go_ret
            exact ⟨v3f,rfl,HR12.out.1,HR12.out.2.2.2.1,HR12.out.2.2.2.2⟩
           |false=>
            replace hf:(if 1≤ro.length then find.l0 kq l (rdn.set i false) rl (ro.take (ro.length - 1)) fl tr (i+1) else none)=some r:=hf
            by_cases h1:1≤ro.length
            ·rw [if_pos h1] at hf
             have HF:=Aside0.mk hf
             have H1:=Aside0.mk h1
             clear hf h1
             go_wp2_with (first|(go_at_call 39;(with_reducible refine HID.out.mono ?_);rintro e w5 ⟨rfl,hb⟩;have HR5:=Aside0.mk (HR4.out.below hb);have HX5:=Aside0.mk (HX4.out.below hb);have HB5:=Aside0.mk (below_step HB4.out hb);have HN5:=Aside0.mk (Kd.R_below HN4.out hb);have H55:=Aside0.mk (Kd.R_below H54.out hb);have H65:=Aside0.mk (Kd.R_below H64.out hb);clear hb HR4 HX4 HB4 HN4 H54 H64;have q0:w5.cell? ⟨wr.heap.size,0,none⟩=some (.int .i64 x.f0):=(blk_cell HX5.out.tail.tail.head 0).trans rfl;have q1:w5.cell? ⟨wr.heap.size,1,none⟩=some (.int .i64 x.f1):=(blk_cell HX5.out.tail.tail.head 1).trans rfl;have q2:w5.cell? ⟨wr.heap.size,2,none⟩=some (.int .i64 x.f2.f0):=(blk_cell HX5.out.tail.tail.head 2).trans rfl;have q3:w5.cell? ⟨wr.heap.size,3,none⟩=some (.int .i64 x.f2.f1):=(blk_cell HX5.out.tail.tail.head 3).trans rfl;have q4:w5.cell? ⟨wr.heap.size,4,none⟩=some (.slice A4 x.f2.f2.length c4):=(blk_cell HX5.out.tail.tail.head 4).trans rfl;have q5:w5.cell? ⟨wr.heap.size,5,none⟩=some (.int .i64 x.f3.f0):=(blk_cell HX5.out.tail.tail.head 5).trans rfl;have q6:w5.cell? ⟨wr.heap.size,6,none⟩=some (.int .i64 x.f3.f1):=(blk_cell HX5.out.tail.tail.head 6).trans rfl;have q7:w5.cell? ⟨wr.heap.size,7,none⟩=some (.int .i64 x.f3.f2):=(blk_cell HX5.out.tail.tail.head 7).trans rfl;have q8:w5.cell? ⟨wr.heap.size,8,none⟩=some (.slice A8 x.f3.f3.length c8):=(blk_cell HX5.out.tail.tail.head 8).trans rfl;have q9:w5.cell? ⟨wr.heap.size,9,none⟩=some (.slice A9 x.f3.f4.length c9):=(blk_cell HX5.out.tail.tail.head 9).trans rfl;have a0:w5.cell? ⟨w3.heap.size+1,0,none⟩=some (.int .i64 a.2.2.1):=(blk_cell HX5.out.head 0).trans rfl;have a1:w5.cell? ⟨w3.heap.size+1,1,none⟩=some (.int .i64 a.2.2.2.1):=(blk_cell HX5.out.head 1).trans rfl;have a2:w5.cell? ⟨w3.heap.size+1,2,none⟩=some (.int .i64 a.2.2.2.2.1):=(blk_cell HX5.out.head 2).trans rfl;have a3:w5.cell? ⟨w3.heap.size+1,3,none⟩=some (.slice Af a.2.2.2.2.2.1.length cf):=(blk_cell HX5.out.head 3).trans rfl;have a4:w5.cell? ⟨w3.heap.size+1,4,none⟩=some (.slice Am a.2.2.2.2.2.2.length cm):=(blk_cell HX5.out.head 4).trans rfl)|(go_at_call 40;(with_reducible refine (speech_same.calls kq a.2.2.1 a.2.2.2.1 a.2.2.2.2.1 Af cf a.2.2.2.2.2.1 Am cm a.2.2.2.2.2.2 x.f3.f0 x.f3.f1 x.f3.f2 A8 c8 x.f3.f3 A9 c9 x.f3.f4 _ _ (Kd.R_reads' H55.out).2.2 (Kd.R_reads' H55.out).2.1 (Kd.R_reads' H65.out).2.2 (Kd.R_reads' H65.out).2.1 (Kd.C_below H8.out.2 HB5.out) H8.out.1 (Kd.C_below H9.out.2 HB5.out) H9.out.1 HSM.out).mono ?_);rintro e w6 ⟨rfl,hb⟩;have HR6:=Aside0.mk (HR5.out.below hb);have HX6:=Aside0.mk (HX5.out.below hb);have HB6:=Aside0.mk (below_step HB5.out hb);have HN6:=Aside0.mk (Kd.R_below HN5.out hb);have H56:=Aside0.mk (Kd.R_below H55.out hb);have H66:=Aside0.mk (Kd.R_below H65.out hb);clear hb HR5 HX5 HB5 HN5 H55 H65;clear q0 q1 q2 q3 q4 q5 q6 q7 q8 q9 a0 a1 a2 a3 a4;obtain ⟨A3,c3,rfl⟩:=Kd.R_slice HR6.out.1.2.2.2.2.2.2.1;obtain ⟨g0,g1,g2,g3⟩:=HR6.out.1.cells;have f3:=blk_frozen HR6.out.1.1 3;obtain ⟨d0,d1⟩:=Kd.R_celln (enc:=Value.bool) (h1:=fun _=>rfl) false HR6.out.1.2.2.2.2.2.1 (i:Int) (by omega) (by omega);rw [Int.toNat_natCast] at d0 d1;have hne:g≠gd:=fun e=>Kd.R_ne HR6.out.1.2.2.2.2.2.1 HR6.out.1.1 (by decide) (by rw [e];rfl);have hne2:gd≠g:=fun e=>hne e.symm)|((with_reducible refine gate_dst (N:=93) rfl ?_);have hK7:Kept w6 (w6.setCell ⟨gd,i,none⟩ (.bool true)) (FS g (.slice (some ⟨gd,0,none⟩) l.length c1) (.slice A3 od.length c3)):=(Kept.refl w6 _).setCell (.inl (.inr (.inl rfl))) _;have HR7:=Aside0.mk (HR6.out.go (HR6.out.1.setDone i true HGD.out) hK7 (fun k hk=> .inl hk.symm));have HX7:=Aside0.mk (HX6.out.kept HR6.out.1 hK7);have HN7:=Aside0.mk (HR6.out.1.keep_row HN6.out (by decide) hK7);clear hK7 HR6 HX6 HN6 HB6 g0 g1 g2 g3 f3 d0 d1;refine Kd.R_lit (Kd.int .i64) (w0:=wB) wB.heap.size 3 ?hg (N:=93) ?hd (xs:=([(i:Int)]:List Int)) (inner:=[.int .i64 i]) (ok:=fun _=>True) (okp:=fun _=>True) ?hr ?hp (fun _ hk=>hk) trivial HR7.out.1.2.2.2.1 HR7.out.1.2.2.2.1.size (by simp) ?_;(case hd=>rfl);(case hg=>rfl);(case hr=>first|(go_simp;done)|(go_simp;rfl));(case hp=>exact (Reps.one (show Kd.M (Kd.int .i64) _ _ _ (i:Int) [.int .i64 i] from rfl) (Reps.none _ _)));intro v9 w8 g9 hb hg_ hnew_;have hb8:=below_grown hg_;have HR8:=Aside0.mk (HR7.out.below hb8);have HX8:=Aside0.mk (HX7.out.below hb8);have HN8:=Aside0.mk (Kd.R_below HN7.out hb8);have HL8:=Aside0.mk g9;clear g9 hb hg_ hnew_ hb8 HR7 HX7 HN7;obtain ⟨A9_,c9_,rfl⟩:=Kd.R_slice HL8.out)|((with_reducible refine gate_builtin (b:= .append) (xs:=#[.tmp 91, .tmp 93]) rfl ?_);at_builtin;refine Kd.R_append_rows (Kd.int .i64) (w0:=wB) wB.heap.size rfl (.tmp 91) (.tmp 93) 23 3 (.int .i64 0) 8 rfl Tryd.underlying23 info3 rfl (by decide) (by omega) (.slice A3 od.length c3) od [(i:Int)] _ _ _ (fun _=>True) (fun _=>False) rfl rfl HR8.out.1.2.2.2.2.2.2.1 ?aR (fun _ _ h=>h) (fun _ h=>h.elim) (fun _ _=>trivial) HR8.out.1.2.2.2.1 HR8.out.1.2.2.2.1.size ?aL ?_;(case aR=>exact (Kd.R_reads' HL8.out).2.2);(case aL=>have:=HLo.out;show (od.length+1)*8≤_;omega);intro v3n w9 ho hb hg hat;rw [← HY.out] at ho;obtain ⟨An3,cn3,rfl⟩:=Kd.R_slice ho;have gg:=blk_grown HR8.out.1.1 hg (Kd.R_ne HR8.out.1.2.2.2.2.2.2.1 HR8.out.1.1 (by decide));have hK:Kept w8 (w9.setCell ⟨g,3,none⟩ (.slice An3 y.length cn3)) (FS g (.slice (some ⟨gd,0,none⟩) l.length c1) (.slice A3 od.length c3)):=(Kept.of_grown hg (Kept.refl w8 _) (fun k h=> .inl (.inr (.inr h.symm)))).setCell (.inl (.inl rfl)) _;have HR10:=Aside0.mk (HR8.out.go (Fnd.setOrd HR8.out.1 hg hb ho) hK (fun k hk=>hat.elim (fun e=> .inl (by rw [← e,hk])) (fun ⟨b,e,hle⟩=> .inr (by rw [e] at hk;injection hk with hk;omega))));have HX10:=Aside0.mk (HX8.out.kept HR8.out.1 hK);have HN10:=Aside0.mk (HR8.out.1.keep_row HN8.out (by decide) hK);have e3:w9.cell? ⟨g,3,none⟩=some (.slice A3 od.length c3):=(blk_cell gg 3).trans rfl;have ef3:=blk_frozen gg 3;have e0:(w9.setCell ⟨g,3,none⟩ (.slice An3 y.length cn3)).cell? ⟨w3.heap.size,0,none⟩=some (.int .i64 a.1):=(blk_cell HX10.out.tail.head 0).trans rfl;have e1:(w9.setCell ⟨g,3,none⟩ (.slice An3 y.length cn3)).cell? ⟨w3.heap.size,1,none⟩=some (.slice An a.2.1.length cn):=(blk_cell HX10.out.tail.head 1).trans rfl;have en:w3.heap.size≠g:=fun e=>(by have h_:=HX10.out.tail.head;rw [e,HR10.out.1.1] at h_;simp at h_);have en2:g≠w3.heap.size:=fun e=>en e.symm;have HRF:=Aside0.mk HR10.out.1;clear ho hb hg hat gg hK HR8 HX8 HN8 HL8)|(go_at_call 37;(with_reducible refine (HIH.out kq (by have:=HKq.out;omega) wB g _ c0 l _ c1 (dn.set i true) left _ y a.1 An cn a.2.1 _ _ HFI.out HRF.out HN10.out).mono ?_);rintro e w12 ⟨v3f,rfl,hF,hK,hv⟩;have HR12:=Aside0.mk (HR10.out.go hF hK hv);obtain ⟨A5,c5,rfl⟩:=Kd.R_slice HR12.out.1.2.2.2.2.2.2.1;obtain ⟨g0,g1,g2,g3⟩:=HR12.out.1.cells;have f3:=blk_frozen HR12.out.1.1 3;clear hF hK hv HR10 HX10 HN10 HRF))
             have hro:=Kd.C_max (Kd.R_reads' HR12.out.1.2.2.2.2.2.2.1).2.2
             have hrc:=(Kd.R_reads' HR12.out.1.2.2.2.2.2.2.1).2.1
             have ew:wrap64 ((ro.length:Int) - 1)=((ro.length - 1:Nat):Int):=by have:=H1.out;unfold wrap64;omega
             have ew0:=eq_true (show (0:Int)≤wrap64 ((ro.length:Int) - 1) by rw [ew];omega)
             have ewc:=eq_true (show wrap64 ((ro.length:Int) - 1)≤(c5:Int) by rw [ew];omega)
             have ewn:(wrap64 ((ro.length:Int) - 1)).toNat=ro.length - 1:=by rw [ew];omega
             have ev0:=eq_true (show (0:Int)≤IntKind.i64.wrap ((ro.length:Int) - 1) by rw [IntKind.wrap_i64];have h_:=ew0;unfold wrap64 at h_;exact of_eq_true h_)
             have evc:=eq_true (show IntKind.i64.wrap ((ro.length:Int) - 1)≤(c5:Int) by rw [IntKind.wrap_i64];have h_:=ewc;unfold wrap64 at h_;exact of_eq_true h_)
             have evn:(IntKind.i64.wrap ((ro.length:Int) - 1)).toNat=ro.length - 1:=by rw [IntKind.wrap_i64];have h_:=ewn;unfold wrap64 at h_;exact h_
             clear ew
             go_region
             all_goals
              have HRT:=Kd.R_take (m:=ro.length - 1) HR12.out.1.2.2.2.2.2.2.1 (by omega)
              obtain ⟨y,hy⟩: ∃y:List Int,y=ro.take (ro.length - 1):=⟨_,rfl⟩
              have hyl:ro.length - 1=y.length:=by rw [hy];simp
              rw [← hy] at HRT
              rw [hyl] at HRT ⊢
              have HF:=Aside0.mk (hy ▸ HF.out)
              have HR13:=Aside0.mk ((HR12.out.go (Fnd.setOrd HR12.out.1 (grown_refl _ _) HR12.out.1.2.2.2.1 HRT) ((Kept.refl w12 _).setCell (.inl (.inl rfl)) _) (fun k hk=> .inl (by cases A5<;>exact hk.symm))).below (below_drew (Below.refl _ _)))
              clear hy hyl HRT HR12 g0 g1 g2 g3 f3 ew0 ewc ewn ev0 evc evn hro hrc
              generalize (w12.setCell ⟨g,3,none⟩ (.slice A5 y.length c5)).drew=w13 at HR13 ⊢
              obtain ⟨g0,g1,g2,g3⟩:=HR13.out.1.cells
              obtain ⟨d0,d1⟩:=Kd.R_celln (enc:=Value.bool) (h1:=fun _=>rfl) false HR13.out.1.2.2.2.2.2.1 (i:Int) (by omega) (by omega)
              rw [Int.toNat_natCast] at d0 d1
              have HR14:=Aside0.mk (HR13.out.go (HR13.out.1.setDone i false HGD.out) ((Kept.refl w13 _).setCell (.inl (.inr (.inl rfl))) _) (fun k hk=> .inl hk.symm))
              go_wp2_with fail
              go_roundg (l.length - i)
              case measure=>have:=HG.out.2;omega
              case rel=>exact ⟨i+1,kq,(rdn.set i false),rl,_,y,by go_num,⟨by have:=HG.out;omega⟩,⟨by have:=HKq.out;omega,HF.out⟩,HR14⟩
            ·rw [if_neg h1] at hf
             exact absurd hf (by simp)
          ·rw [if_neg hL] at hf
           exact absurd hf (by simp)
     ·rw [if_neg hi] at hf
      obtain rfl:=Option.some.inj hf
      have ltb:decide ((i:Int) < (l.length:Int))=false:=decide_eq_false (by omega)
      have ltc:decide (i < l.length)=false:=decide_eq_false hi
      go_wp2_with fail
      go_ret
      exact ⟨v3c,rfl,HR.out.1,HR.out.2.2.2.1,HR.out.2.2.2.2⟩
end Go.Proofs.YthejnffhfmdpnaaDoor.Q

end

section
namespace Go.Proofs.YthejnffhfmdpnaaDoor.Q
open Go.RowKit Go.Proofs.YthejnffhfmdpnaaDoorW.PrintWords Go.Proofs.YthejnffhfmdpnaaDoorW.PrintLast Go.Proofs.YthejnffhfmdpnaaDoorW.PrintMore
set_option linter.unusedVariables false
set_option linter.unusedSimpArgs false
def okB (x:S45):Bool:= !(decide (x.f0 < 1) || (decide (x.f1 < 0) || (decide (0 < x.f1) && decide (x.f1 < x.f0))))
def rightB (l:List S45):Bool:=decide (l.length≤256) && (List.range l.length).all (fun i=>okB (rd_T45 l (i:Int)))
theorem rightB_no {l:List S45} {i:Nat} (hi:i < l.length) (h:okB (rd_T45 l (i:Int))=false):rightB l=false:=by
 unfold rightB
 rw [Bool.and_eq_false_iff]
 refine .inr ?_
 rw [← Bool.not_eq_true,List.all_eq_true]
 intro hall
 have:=hall i (List.mem_range.mpr hi)
 rw [h] at this
 exact absurd this (by decide)
theorem rightB_yes {l:List S45} (h: ∀i,i < l.length→okB (rd_T45 l (i:Int))=true):rightB l=decide (l.length≤256):=by
 unfold rightB
 rw [show (List.range l.length).all (fun i=>okB (rd_T45 l (i:Int)))=true from List.all_eq_true.mpr (fun i hi=>h i (List.mem_range.mp hi)),Bool.and_true]
set_option maxHeartbeats 8000000 in
set_option maxRecDepth 100000 in
theorem rightc_calls (A0:Option Addr) (c0:Nat) (l:List S45) (w:World) (hr0:Kd.C k45 w A0 l.length l):
  Calls Tryd.prog 27 #[.slice A0 l.length c0] w fun e w'=>e= .returned (.bool (rightB l))∧Below w.heap.size w w':=by
 have HR0:=Aside0.mk hr0
 have hlm:=hr0.2.1
 have HW:=Aside0.mk (Below.refl w.heap.size w)
 clear hr0
 by_cases h256:l.length≤256
 case neg=>
  have n1:decide ((256:Int) < (l.length:Int))=true:=decide_eq_true (by omega)
  have n2:decide (256 < l.length)=true:=decide_eq_true (by omega)
  have HO:=Aside0.mk (show rightB l=false by unfold rightB;rw [decide_eq_false h256];rfl)
  go_enter Tryd.func27,Tryd.ntmps27
  go_wp2
  go_ret
  exact ⟨by rw [HO.out];rfl,HW.out⟩
 have n1:decide ((256:Int) < (l.length:Int))=false:=decide_eq_false (by omega)
 have n2:decide (256 < l.length)=false:=decide_eq_false (by omega)
 go_enter Tryd.func27,Tryd.ntmps27
 go_wp2
 go_loopg [10] (l.length+1) (fun gq v10 wr=> ∃i:Nat,v10= .int .i64 i∧Aside0 (i≤l.length∧gq+i=l.length+1)∧Aside0 (∀j,j < i→okB (rd_T45 l (j:Int))=true)∧Aside0 (Below w.heap.size w wr))
 case atStart=>exact ⟨0,rfl,⟨by omega⟩,⟨fun j hj=>absurd hj (Nat.not_lt_zero _)⟩,HW⟩
 case round=>
  clear HW
  obtain ⟨i,rfl,HG,HA,HW⟩:=hrel
  have hle:=HG.out.1
  by_cases hlt:i < l.length
  ·have ltb:decide ((i:Int) < (l.length:Int))=true:=decide_eq_true (by omega)
   have ltc:decide (i < l.length)=true:=decide_eq_true hlt
   obtain ⟨ad0,A4,c4,A8,c8,A9,c9,ead0,x0,x1,x2,x3,x4,x5,x6,x7,x8,x9, -⟩:=at_T45 (Kd.C_below HR0.out HW.out) (i:Int) (by omega) (by omega)
   cases ead0
   rw [Int.toNat_natCast] at x0 x1 x2 x3 x4 x5 x6 x7 x8 x9
   have p200:=eq_true (show (0:Int)≤(i:Int) by omega)
   have q200:=eq_true (show (i:Int) < (l.length:Int) by omega)
   obtain ⟨x,hx⟩: ∃x,x=rd_T45 l (i:Int):=⟨_,rfl⟩
   have HK:=Aside0.mk (show okB (rd_T45 l (i:Int))=(!(decide (x.f0 < 1) || (decide (x.f1 < 0) || (decide (0 < x.f1) && decide (x.f1 < x.f0))))) by rw [hx];rfl)
   rw [← hx] at x0 x1 x2 x3 x4 x5 x6 x7 x8 x9
   clear hx hle
   have HW1:=Aside0.mk (below_alloc HW.out (.cells #[.int .i64 x.f0, .int .i64 x.f1, .int .i64 x.f2.f0, .int .i64 x.f2.f1, .slice A4 x.f2.f2.length c4, .int .i64 x.f3.f0, .int .i64 x.f3.f1, .int .i64 x.f3.f2, .slice A8 x.f3.f3.length c8, .slice A9 x.f3.f4.length c9] 45))
   cases h1:decide (x.f0 < 1)<;>cases h2:decide (x.f1 < 0)<;>cases h3:decide (0 < x.f1)<;>cases h4:decide (x.f1 < x.f0)<;>rw [h1,h2,h3,h4] at HK
   all_goals first
    |have HO:=Aside0.mk (rightB_no hlt HK.out)
     go_wp2_with fail
     go_ret
     exact ⟨by rw [HO.out];rfl,HW1.out⟩
    |go_wp2_with fail
     go_roundg (l.length - i)
     case measure=>have:=HG.out.2;omega
     case rel=>exact ⟨i+1,by go_num,⟨by have:=HG.out;omega⟩,⟨fun j hj=>by
      by_cases hq:j=i
      ·subst hq;exact HK.out
      ·exact HA.out j (by omega)⟩,HW1⟩
  ·have ltb:decide ((i:Int) < (l.length:Int))=false:=decide_eq_false (by omega)
   have ltc:decide (i < l.length)=false:=decide_eq_false hlt
   have HO:=Aside0.mk (show rightB l=true from (rightB_yes (l:=l) (fun j hj=>HA.out j (by omega))).trans (decide_eq_true h256))
   go_wp2
   go_ret
   exact ⟨by rw [HO.out];rfl,HW.out⟩
end Go.Proofs.YthejnffhfmdpnaaDoor.Q

end

section
namespace Go.Proofs.YthejnffhfmdpnaaDoor.Q
open Go.RowKit Go.Proofs.YthejnffhfmdpnaaDoorW.PrintWords Go.Proofs.YthejnffhfmdpnaaDoorW.PrintLast Go.Proofs.YthejnffhfmdpnaaDoorW.PrintMore
set_option linter.unusedVariables false
set_option linter.unusedSimpArgs false
def order.f (k:Nat) (l:List S45) (steps:Int):Option (List Int × Int):=
 if rightB l=false then some ([],1) else if steps < 0 then some ([],1) else (find.f k (l.map strip) (List.replicate l.length false) steps [] 0 []).bind fun r=>if r.1=true then some (r.2.2.2,0) else if r.2.2.1 < 0 then some ([],7) else some ([],8)
def OrdPost (w:World) (r:List Int × Int) (e:Ending) (w':World):Prop:= ∃v,e= .returned (.tuple #[v, .int .i64 r.2])∧Kd.R (Kd.int .i64) 3 w' w.heap.size (fun _=>True) v r.1∧Below w.heap.size w w'
theorem right_len {l:List S45} (h:rightB l=true):l.length≤256:=by
 unfold rightB at h
 rw [Bool.and_eq_true] at h
 exact of_decide_eq_true h.1
set_option maxHeartbeats 8000000 in
set_option maxRecDepth 100000 in
theorem order_calls (k:Nat) (A0:Option Addr) (c0:Nat) (l:List S45) (steps:Int) (r:List Int × Int) (w:World) (hr0:Kd.C k45 w A0 l.length l) (hc0:l.length≤c0) (h:order.f k l steps=some r):
  Calls Tryd.prog 20 #[.slice A0 l.length c0, .int .i64 steps] w (OrdPost w r):=by
 have HR0:=Aside0.mk hr0
 have HC0:=Aside0.mk hc0
 clear hr0 hc0
 unfold order.f at h
 have HRt:=Aside0.mk (rightc_calls A0 c0 l w HR0.out)
 cases hb:rightB l with
 |false=>
  rw [hb] at HRt
  rw [if_pos hb] at h
  obtain rfl:=Option.some.inj h
  clear h
  go_enter Tryd.func20,Tryd.ntmps20
  go_wp2_with (first|(go_at_call 27;(with_reducible refine HRt.out.mono ?_);rintro e w1 ⟨rfl,hb⟩;have HB:=Aside0.mk hb;clear hb))
  go_ret2
  exact ⟨_,rfl,Kd.R_nil _ _ _ _ _,HB.out⟩
 |true=>
  have HLen:=Aside0.mk (right_len hb)
  rw [hb] at HRt
  rw [if_neg (by rw [hb];decide)] at h
  clear hb
  by_cases hs:steps < 0
  ·rw [if_pos hs] at h
   obtain rfl:=Option.some.inj h
   have hsb:decide (steps < 0)=true:=decide_eq_true hs
   clear h hs
   go_enter Tryd.func20,Tryd.ntmps20
   go_wp2_with (first|(go_at_call 27;(with_reducible refine HRt.out.mono ?_);rintro e w1 ⟨rfl,hb⟩;have HB:=Aside0.mk hb;clear hb))
   go_ret2
   exact ⟨_,rfl,Kd.R_nil _ _ _ _ _,HB.out⟩
  ·rw [if_neg hs] at h
   have hsb:decide (steps < 0)=false:=decide_eq_false hs
   clear hs
   obtain ⟨⟨rb,rdn,rl,ro⟩,hf,h⟩:=Option.bind_eq_some_iff.mp h
   have HFn:=Aside0.mk hf
   have HH:=Aside0.mk h
   clear hf h
   go_enter Tryd.func20,Tryd.ntmps20
   go_wp2_with (first|(go_at_call 27;(with_reducible refine HRt.out.mono ?_);rintro e w1 ⟨rfl,hb⟩;have HB:=Aside0.mk hb;clear hb))
   refine start_ (n:=9) (S:=fun w'=>True) (ds:=[]) (TF [0,9]) (by kernel_rfl) rfl rfl trivial (fun hHeld=>?_)
   have n0_:=Aside0.mk (below_drew HB.out)
   clear HB
   have HB:=n0_
   clear n0_
   generalize w1.drew=W1 at HB hHeld ⊢
   refine pure_ (i:=0) (N:=some 14) (v:=?_) (a':=?_) (TF [1,8]) rfl rfl (by kernel_rfl) (fun _ _ _ h=>h) (Or.inl ⟨by rfl,?_⟩) ?_ ?_
   rotate_left
   ·intro w'
    go_simp
    with_reducible rfl
   rotate_left
   ·simp only [Act.put,List.setIfInBounds_toArray,List.set_cons_zero,List.set_cons_succ,i64_w]
    rfl
   refine pure_ (i:=2) (N:=some 16) (v:=?_) (a':=?_) (TF [1,1,1,6]) rfl rfl (by kernel_rfl) (fun _ _ _ h=>h) (Or.inl ⟨by rfl,?_⟩) ?_ ?_
   rotate_left
   ·intro w'
    go_simp
    with_reducible rfl
   rotate_left
   ·simp only [Act.put,List.setIfInBounds_toArray,List.set_cons_zero,List.set_cons_succ,i64_w]
    rfl
   refine pure_ (i:=3) (N:=some 17) (v:=?_) (a':=?_) (TF [1,1,2,5]) rfl rfl (by kernel_rfl) (fun _ _ _ h=>h) (Or.inl ⟨by rfl,?_⟩) ?_ ?_
   rotate_left
   ·intro w'
    go_simp
    with_reducible rfl
   rotate_left
   ·simp only [Act.put,List.setIfInBounds_toArray,List.set_cons_zero,List.set_cons_succ,i64_w]
    rfl
   refine pure_ (i:=5) (N:=some 19) (v:=?_) (a':=?_) (TF [1,1,2,1,1,3]) rfl rfl (by kernel_rfl) (fun _ _ _ h=>h) (Or.inl ⟨by rfl,?_⟩) ?_ ?_
   rotate_left
   ·intro w'
    go_simp
    with_reducible rfl
   rotate_left
   ·simp only [Act.put,List.setIfInBounds_toArray,List.set_cons_zero,List.set_cons_succ,i64_w]
    rfl
   refine join_ (σ:=(Option Addr × Nat) × Value) 3 (TF [6,3]) (fun s_=>[(15, .slice s_.1.1 l.length s_.1.2),(18,s_.2)]) (fun s_ w'=>Below w.heap.size w w'∧CRow w w' (.slice s_.1.1 l.length s_.1.2) (l.map strip)∧l.length≤s_.1.2∧Kd.R Kd.bool 4 w' w.heap.size (fun _=>True) s_.2 (List.replicate l.length false)) ?_ ?_
   rotate_left
   ·intro hCont
    refine two_ (i:=1) (j:=4) (Ni:=some 15) (Nj:=some 18) (TF [4,1,1,3]) (TF [1,1,4,3]) rfl rfl rfl rfl (by kernel_rfl) (by decide) (by decide) (fun K hK=>?_) (fun K hK=>?_)
    ·skip
     refine goes_ Tryd.func36 (by kernel_rfl) rfl #[.slice A0 l.length c0] (by rfl) rfl rfl (by simp only [List.map_toArray,List.map_cons,List.map_nil];rfl) ?_
     with_reducible refine (efree_calls A0 c0 l w _ HR0.out HB.out (by have:=HLen.out;omega)).mono ?_
     rintro e W2 ⟨Ac,cc,rfl,hc,hC,hb⟩
     refine ⟨_,rfl,?_⟩
     have n0_:=Aside0.mk (below_step HB.out hb)
     have n1_:=Aside0.mk (hC)
     have n2_:=Aside0.mk (hc)
     (try clear HB)
     (try clear GC)
     (try clear GL)
     have HB:=n0_
     have GC:=n1_
     have GL:=n2_
     clear n0_ n1_ n2_
     clear hb hc hC
     refine hK.out _ _ trivial (fun hHeld=>?_)
     clear hK K
     refine norm_ (a':=?_) ?_ ?_
     rotate_left
     ·show Act.put _ (some 15) _=_
      simp only [Act.put,List.setIfInBounds_toArray,List.set_cons_zero,List.set_cons_succ,i64_w]
      rfl
     refine one_ (i:=4) (N:=some 18) (TF [6,3]) rfl rfl (by kernel_rfl) (by decide) (fun K hK=>?_)
     refine Kd.R_make_step Kd.bool (w0:=w) w.heap.size 4 ?hw (N:=18) ?hd 56 (.tmp 17) (.tmp 17) ?ho (l.length:Int) ?hx ?hy Tryd.underlying56 (.bool false) 1 ?hi ?hz (by decide) (by decide) false (ok:=fun _=>True) (okp:=fun _=>True) ?hm (fun _ _=>trivial) trivial (by omega) ?hl HB.out HB.out.size ?_;(case hd=>rfl);(case ho=>rfl);(case hw=>first|(go_simp;done)|(go_simp;rfl));(case hx=>rfl);(case hy=>rfl);(case hi=>kernel_rfl);(case hz=>rfl);(case hm=>rfl);(case hl=>have:=HLen.out;rw [Int.toNat_natCast];omega)
     intro v1 W3 g1 hb hg hnew_
     rw [Int.toNat_natCast] at g1
     have n0_:=Aside0.mk (hb)
     have n1_:=Aside0.mk (g1)
     have n2_:=Aside0.mk (GC.out.below (below_grown hg))
     (try clear HB)
     (try clear G1)
     (try clear GC)
     have HB:=n0_
     have G1:=n1_
     have GC:=n2_
     clear n0_ n1_ n2_
     clear g1 hb hg hnew_
     refine hK.out _ _ trivial (fun hHeld=>?_)
     clear hK K
     refine norm_ (a':=?_) ?_ ?_
     rotate_left
     ·show Act.put _ (some 18) _=_
      simp only [Act.put,List.setIfInBounds_toArray,List.set_cons_zero,List.set_cons_succ,i64_w]
      rfl
     exact norm_ (by simp only [putAll,Act.put,List.setIfInBounds_toArray,List.set_cons_zero,List.set_cons_succ]) (hCont ((Ac,cc),v1) _ ⟨HB.out,GC.out,GL.out,G1.out⟩)
    ·skip
     refine Kd.R_make_step Kd.bool (w0:=w) w.heap.size 4 ?hw (N:=18) ?hd 56 (.tmp 17) (.tmp 17) ?ho (l.length:Int) ?hx ?hy Tryd.underlying56 (.bool false) 1 ?hi ?hz (by decide) (by decide) false (ok:=fun _=>True) (okp:=fun _=>True) ?hm (fun _ _=>trivial) trivial (by omega) ?hl HB.out HB.out.size ?_;(case hd=>rfl);(case ho=>rfl);(case hw=>first|(go_simp;done)|(go_simp;rfl));(case hx=>rfl);(case hy=>rfl);(case hi=>kernel_rfl);(case hz=>rfl);(case hm=>rfl);(case hl=>have:=HLen.out;rw [Int.toNat_natCast];omega)
     intro v1 W2 g1 hb hg hnew_
     rw [Int.toNat_natCast] at g1
     have n0_:=Aside0.mk (hb)
     have n1_:=Aside0.mk (g1)
     (try clear HB)
     (try clear G1)
     have HB:=n0_
     have G1:=n1_
     clear n0_ n1_
     clear g1 hb hg hnew_
     refine hK.out _ _ trivial (fun hHeld=>?_)
     clear hK K
     refine norm_ (a':=?_) ?_ ?_
     rotate_left
     ·show Act.put _ (some 18) _=_
      simp only [Act.put,List.setIfInBounds_toArray,List.set_cons_zero,List.set_cons_succ,i64_w]
      rfl
     refine one_ (i:=1) (N:=some 15) (TF [6,3]) rfl rfl (by kernel_rfl) (by decide) (fun K hK=>?_)
     refine goes_ Tryd.func36 (by kernel_rfl) rfl #[.slice A0 l.length c0] (by rfl) rfl rfl (by simp only [List.map_toArray,List.map_cons,List.map_nil];rfl) ?_
     with_reducible refine (efree_calls A0 c0 l w _ HR0.out HB.out (by have:=HLen.out;omega)).mono ?_
     rintro e W3 ⟨Ac,cc,rfl,hc,hC,hb⟩
     refine ⟨_,rfl,?_⟩
     have n0_:=Aside0.mk (below_step HB.out hb)
     have n1_:=Aside0.mk (hC)
     have n2_:=Aside0.mk (hc)
     have n3_:=Aside0.mk (Kd.R_below G1.out hb)
     (try clear HB)
     (try clear GC)
     (try clear GL)
     (try clear G1)
     have HB:=n0_
     have GC:=n1_
     have GL:=n2_
     have G1:=n3_
     clear n0_ n1_ n2_ n3_
     clear hb hc hC
     refine hK.out _ _ trivial (fun hHeld=>?_)
     clear hK K
     refine norm_ (a':=?_) ?_ ?_
     rotate_left
     ·show Act.put _ (some 15) _=_
      simp only [Act.put,List.setIfInBounds_toArray,List.set_cons_zero,List.set_cons_succ,i64_w]
      rfl
     exact norm_ (by simp only [putAll,Act.put,List.setIfInBounds_toArray,List.set_cons_zero,List.set_cons_succ]) (hCont ((Ac,cc),v1) _ ⟨HB.out,GC.out,GL.out,G1.out⟩)
   rintro ⟨⟨Ac,cc⟩,v1⟩ W5 ⟨hb,gc,gl,g1⟩
   have n0_:=Aside0.mk (hb)
   have n1_:=Aside0.mk (gc)
   have n2_:=Aside0.mk (gl)
   (try clear HB)
   (try clear GC)
   (try clear GL)
   have HB:=n0_
   have GC:=n1_
   have GL:=n2_
   clear n0_ n1_ n2_
   clear hb gc gl
   have hHeld:True:=trivial
   obtain ⟨Ab,cb,eb⟩:=Kd.R_slice g1
   rw [List.length_replicate] at eb
   subst eb
   have G1:=Aside0.mk g1
   clear g1
   refine norm_ (a':=?_) ?_ ?_
   rotate_left
   ·simp only [putAll,Act.put,List.setIfInBounds_toArray,List.set_cons_zero,List.set_cons_succ]
    rfl
   refine pure_ (i:=6) (N:=some 20) (v:=?_) (a':=?_) (TF [7,2]) rfl rfl (by kernel_rfl) (fun _ _ _ h=>h) (Or.inl ⟨by rfl,?_⟩) ?_ ?_
   rotate_left
   ·intro w'
    go_simp
    with_reducible rfl
   rotate_left
   ·simp only [Act.put,List.setIfInBounds_toArray,List.set_cons_zero,List.set_cons_succ,i64_w]
    rfl
   refine one_ (i:=7) (N:=some 21) (TF [8,1]) rfl rfl (by kernel_rfl) (by decide) (fun K hK=>?_)
   refine value_ (w1:=?_) (v:=?_) (by rfl) rfl ?_ ?_
   rotate_left 2
   ·go_simp
    constructor
    ·rfl
    ·rfl
   refine hK.out _ _ trivial (fun hHeld=>?_)
   clear hK K
   refine norm_ (a':=?_) ?_ ?_
   rotate_left
   ·show Act.put _ (some 21) _=_
    simp only [Act.put,List.setIfInBounds_toArray,List.set_cons_zero,List.set_cons_succ,i64_w]
    rfl
   refine pure_ (i:=8) (N:=some 6) (v:=?_) (a':=?_) (TF [9]) rfl rfl (by kernel_rfl) (fun _ _ _ h=>h) (Or.inl ⟨by rfl,?_⟩) ?_ ?_
   rotate_left
   ·intro w'
    go_simp
    with_reducible rfl
   rotate_left
   ·simp only [Act.put,List.setIfInBounds_toArray,List.set_cons_zero,List.set_cons_succ,i64_w]
    rfl
   refine done_ (by kernel_rfl) ?_
   obtain ⟨l2,hl2⟩: ∃l2:List S45,l2=l.map strip:=⟨_,rfl⟩
   have e2:l.length=l2.length:=by rw [hl2,List.length_map]
   have HF:=Aside0.mk (show Fnd w W5.heap.size Ac cc l2 (.slice Ab l2.length cb) (List.replicate l2.length false) (steps) (.slice none 0 0) [] (W5.alloc (.cells #[.slice Ac l2.length cc, .slice Ab l2.length cb, .int .i64 (steps), .slice none 0 0] 76)) from ⟨blk_new _ _,by rw [← e2,hl2];exact GC.out.below (below_alloc (Below.refl _ _) _),by rw [← e2];exact GL.out,below_alloc HB.out _,HB.out.size,by rw [← e2];exact Kd.R_below G1.out (below_alloc (Below.refl _ _) _),Kd.R_nil _ _ _ _ _,by simp⟩)
   rw [e2]
   have HL2:=Aside0.mk hl2
   clear hl2 GC GL G1 HB
   generalize W5.alloc (.cells #[.slice Ac l2.length cc, .slice Ab l2.length cb, .int .i64 (steps), .slice none 0 0] 76)=W8 at HF ⊢
   generalize W5.heap.size=g at HF ⊢
   have HFI:=Aside0.mk (HFn.out)
   rw [← HL2.out,show l.length=l2.length by rw [HL2.out,List.length_map]] at HFI
   clear HFn
   have HFC:=Aside0.mk (find_calls k w g Ac cc l2 Ab cb (List.replicate l2.length false) steps (.slice none 0 0) [] 0 none 0 [] (rb,rdn,rl,ro) W8 HFI.out HF.out (Kd.R_nil _ _ _ _ _))
   rw [show ([]:List ByteArray).length=0 from rfl] at HFC
   have h:=HH.out
   clear HH
   cases rb with
   |true=>
    rw [if_pos rfl] at h
    obtain rfl:=Option.some.inj h
    clear h
    go_wp2_with (first|(go_at_call 37;(with_reducible refine HFC.out.mono ?_);rintro e w9 ⟨v3,rfl,hF,hK,hv⟩;have HF9:=Aside0.mk hF;obtain ⟨g0,g1,g2,g3⟩:=hF.cells;clear hF hK hv))
    go_ret2
    exact ⟨_,rfl,HF9.out.2.2.2.2.2.2.1,HF9.out.2.2.2.1⟩
   |false=>
    rw [if_neg (by decide)] at h
    by_cases hr:rl < 0
    ·rw [if_pos hr] at h
     obtain rfl:=Option.some.inj h
     have hrb:decide (rl < 0)=true:=decide_eq_true hr
     clear h hr
     go_wp2_with (first|(go_at_call 37;(with_reducible refine HFC.out.mono ?_);rintro e w9 ⟨v3,rfl,hF,hK,hv⟩;have HF9:=Aside0.mk hF;obtain ⟨g0,g1,g2,g3⟩:=hF.cells;clear hF hK hv))
     go_ret2
     exact ⟨_,rfl,Kd.R_nil _ _ _ _ _,HF9.out.2.2.2.1⟩
    ·rw [if_neg hr] at h
     obtain rfl:=Option.some.inj h
     have hrb:decide (rl < 0)=false:=decide_eq_false hr
     clear h hr
     go_wp2_with (first|(go_at_call 37;(with_reducible refine HFC.out.mono ?_);rintro e w9 ⟨v3,rfl,hF,hK,hv⟩;have HF9:=Aside0.mk hF;obtain ⟨g0,g1,g2,g3⟩:=hF.cells;clear hF hK hv))
     go_ret2
     exact ⟨_,rfl,Kd.R_nil _ _ _ _ _,HF9.out.2.2.2.1⟩
end Go.Proofs.YthejnffhfmdpnaaDoor.Q

end

section
namespace Go.Proofs.YthejnffhfmdpnaaDoor.Q
open Go.RowKit Go.Proofs.YthejnffhfmdpnaaDoorW.PrintWords Go.Proofs.YthejnffhfmdpnaaDoorW.PrintLast Go.Proofs.YthejnffhfmdpnaaDoorW.PrintMore
set_option linter.unusedVariables false
set_option linter.unusedSimpArgs false
def exF:List S66:=[⟨⟨#[97]⟩,0,⟨#[120]⟩⟩]
def exL:List S45:=[⟨1,2,⟨1,0,exF⟩,⟨0,0,0,[],[]⟩⟩,⟨3,4,⟨2,0,[]⟩,⟨0,0,0,exF,[]⟩⟩]
theorem C_lit {α:Type} {d:Kd α} {W:World} {g t:Nat} {arr:Array Value} {xs:List α} (hb:W.heap[g]? =some (.cells arr t (0,0))) (hm:xs.length≤9223372036854775807) (h: ∀(j:Nat) (p:α),xs[j]? =some p→ ∃c:List Value,c.length=d.sz∧d.K W p c∧ ∀(i:Nat) (u:Value),c[i]? =some u→arr[j*d.sz+i]? =some u):d.C W (some ⟨g,0,none⟩) xs.length xs:=
 ⟨rfl,hm,fun _=>⟨_,rfl,fun j p hj=>by
  obtain ⟨c,hl,hk,hc⟩:=h j p hj
  exact ⟨c,hl,hk,fun i u hu=>by rw [addz,blk_cell hb];exact hc i u hu⟩⟩⟩
theorem C_none {α:Type} (d:Kd α) (W:World):d.C W none 0 ([]:List α):=⟨rfl,(show 0≤9223372036854775807 by decide),fun h=>absurd h (Nat.lt_irrefl 0)⟩
theorem ten {a0 a1 a2 a3 a4 a5 a6 a7 a8 a9:Value} {arr:Array Value} {q:Nat} (h0:arr[q]? =some a0) (h1:arr[q+1]? =some a1) (h2:arr[q+2]? =some a2) (h3:arr[q+3]? =some a3) (h4:arr[q+4]? =some a4) (h5:arr[q+5]? =some a5) (h6:arr[q+6]? =some a6) (h7:arr[q+7]? =some a7) (h8:arr[q+8]? =some a8) (h9:arr[q+9]? =some a9) (i:Nat) (u:Value) (h: [a0,a1,a2,a3,a4,a5,a6,a7,a8,a9][i]? =some u):arr[q+i]? =some u:=by
 match i,h with
 |0,h=>exact h0.trans h
 |1,h=>exact h1.trans h
 |2,h=>exact h2.trans h
 |3,h=>exact h3.trans h
 |4,h=>exact h4.trans h
 |5,h=>exact h5.trans h
 |6,h=>exact h6.trans h
 |7,h=>exact h7.trans h
 |8,h=>exact h8.trans h
 |9,h=>exact h9.trans h
 |_+10,h=>simp at h
theorem exL_C (w:World):Kd.C k45 ((w.alloc (.cells #[.string ⟨#[97]⟩, .int .i64 0, .string ⟨#[120]⟩] 66)).alloc (.cells #[.int .i64 1, .int .i64 2, .int .i64 1, .int .i64 0, .slice (some ⟨w.heap.size,0,none⟩) 1 1, .int .i64 0, .int .i64 0, .int .i64 0, .slice none 0 0, .slice none 0 0, .int .i64 3, .int .i64 4, .int .i64 2, .int .i64 0, .slice none 0 0, .int .i64 0, .int .i64 0, .int .i64 0, .slice (some ⟨w.heap.size,0,none⟩) 1 1, .slice none 0 0] 45)) (some ⟨w.heap.size+1,0,none⟩) 2 exL:=by
 have h1:((w.alloc (.cells #[.string ⟨#[97]⟩, .int .i64 0, .string ⟨#[120]⟩] 66)).alloc (.cells #[.int .i64 1, .int .i64 2, .int .i64 1, .int .i64 0, .slice (some ⟨w.heap.size,0,none⟩) 1 1, .int .i64 0, .int .i64 0, .int .i64 0, .slice none 0 0, .slice none 0 0, .int .i64 3, .int .i64 4, .int .i64 2, .int .i64 0, .slice none 0 0, .int .i64 0, .int .i64 0, .int .i64 0, .slice (some ⟨w.heap.size,0,none⟩) 1 1, .slice none 0 0] 45)).heap[w.heap.size]? =some (.cells #[.string ⟨#[97]⟩, .int .i64 0, .string ⟨#[120]⟩] 66 (0,0)):=blk_alloc (blk_new _ _) _
 have h2:((w.alloc (.cells #[.string ⟨#[97]⟩, .int .i64 0, .string ⟨#[120]⟩] 66)).alloc (.cells #[.int .i64 1, .int .i64 2, .int .i64 1, .int .i64 0, .slice (some ⟨w.heap.size,0,none⟩) 1 1, .int .i64 0, .int .i64 0, .int .i64 0, .slice none 0 0, .slice none 0 0, .int .i64 3, .int .i64 4, .int .i64 2, .int .i64 0, .slice none 0 0, .int .i64 0, .int .i64 0, .int .i64 0, .slice (some ⟨w.heap.size,0,none⟩) 1 1, .slice none 0 0] 45)).heap[w.heap.size+1]? =some (.cells #[.int .i64 1, .int .i64 2, .int .i64 1, .int .i64 0, .slice (some ⟨w.heap.size,0,none⟩) 1 1, .int .i64 0, .int .i64 0, .int .i64 0, .slice none 0 0, .slice none 0 0, .int .i64 3, .int .i64 4, .int .i64 2, .int .i64 0, .slice none 0 0, .int .i64 0, .int .i64 0, .int .i64 0, .slice (some ⟨w.heap.size,0,none⟩) 1 1, .slice none 0 0] 45 (0,0)):=by
  have:=blk_new (w.alloc (.cells #[.string ⟨#[97]⟩, .int .i64 0, .string ⟨#[120]⟩] 66)) (.cells #[.int .i64 1, .int .i64 2, .int .i64 1, .int .i64 0, .slice (some ⟨w.heap.size,0,none⟩) 1 1, .int .i64 0, .int .i64 0, .int .i64 0, .slice none 0 0, .slice none 0 0, .int .i64 3, .int .i64 4, .int .i64 2, .int .i64 0, .slice none 0 0, .int .i64 0, .int .i64 0, .int .i64 0, .slice (some ⟨w.heap.size,0,none⟩) 1 1, .slice none 0 0] 45)
  rw [show (w.alloc (.cells #[.string ⟨#[97]⟩, .int .i64 0, .string ⟨#[120]⟩] 66)).heap.size=w.heap.size+1 by simp] at this
  exact this
 have hF:Kd.C k66 ((w.alloc (.cells #[.string ⟨#[97]⟩, .int .i64 0, .string ⟨#[120]⟩] 66)).alloc (.cells #[.int .i64 1, .int .i64 2, .int .i64 1, .int .i64 0, .slice (some ⟨w.heap.size,0,none⟩) 1 1, .int .i64 0, .int .i64 0, .int .i64 0, .slice none 0 0, .slice none 0 0, .int .i64 3, .int .i64 4, .int .i64 2, .int .i64 0, .slice none 0 0, .int .i64 0, .int .i64 0, .int .i64 0, .slice (some ⟨w.heap.size,0,none⟩) 1 1, .slice none 0 0] 45)) (some ⟨w.heap.size,0,none⟩) exF.length exF:=C_lit h1 (by decide) (fun j p hj=>by
  match j,hj with
  |0,hj=>
   obtain rfl:=Option.some.inj hj
   refine ⟨_,rfl,k66_mk _ _,fun i u hu=>?_⟩
   match i,hu with
   |0,hu=>exact hu
   |1,hu=>exact hu
   |2,hu=>exact hu
   |_+3,hu=>simp at hu
  |_+1,hj=>simp [exF] at hj)
 refine C_lit (xs:=exL) h2 (by decide) (fun j p hj=>?_)
 match j,hj with
 |0,hj=>
  obtain rfl:=Option.some.inj hj
  exact ⟨_,rfl,k45_mk _ _ (A4:=some ⟨w.heap.size,0,none⟩) (c4:=1) (Nat.le_refl _) hF (A8:=none) (c8:=0) (Nat.le_refl _) (C_none _ _) (A9:=none) (c9:=0) (Nat.le_refl _) (C_none _ _),ten rfl rfl rfl rfl rfl rfl rfl rfl rfl rfl⟩
 |1,hj=>
  obtain rfl:=Option.some.inj hj
  exact ⟨_,rfl,k45_mk _ _ (A4:=none) (c4:=0) (Nat.le_refl _) (C_none _ _) (A8:=some ⟨w.heap.size,0,none⟩) (c8:=1) (Nat.le_refl _) hF (A9:=none) (c9:=0) (Nat.le_refl _) (C_none _ _),ten rfl rfl rfl rfl rfl rfl rfl rfl rfl rfl⟩
 |_+2,hj=>simp [exL] at hj
set_option maxHeartbeats 8000000 in
set_option maxRecDepth 100000 in
theorem awake_calls (k:Nat) (w:World) (h:order.f k exL 100=some ([0,1],0)):
  Calls Tryd.prog 14 #[] w fun e w'=>e= .returned (.bool true)∧Below w.heap.size w w':=by
 go_enter Tryd.func14,Tryd.ntmps14
 have HO:=Aside0.mk (order_calls k (some ⟨w.heap.size+1,0,none⟩) 2 exL 100 ([0,1],0) _ (exL_C w) (Nat.le_refl _) h)
 rw [show exL.length=2 from rfl] at HO
 clear h
 go_wp2_with (first|(go_at_call 20;(with_reducible refine HO.out.mono ?_);rintro e w9 ⟨v,rfl,ho,hb⟩;have HB:=Aside0.mk (below_step (below_alloc (below_alloc (Below.refl w.heap.size w) _) _) hb);obtain ⟨A3,c3,rfl⟩:=Kd.R_slice ho;obtain ⟨ad,ead,y0⟩:=Kd.at_int (Kd.R_reads' ho).2.2 (0:Int) (by decide) (by decide);cases ead;obtain ⟨ad1,ead1,y1⟩:=Kd.at_int (Kd.R_reads' ho).2.2 (1:Int) (by decide) (by decide);cases ead1;have z0:w9.cell? ad=some (.int .i64 0):=(by have h_:=y0;rw [show (Int.toNat 0)=0 from rfl,Addr.add_zero'] at h_;exact h_);have z1:w9.cell? ⟨ad.block,ad.off+1,none⟩=some (.int .i64 1):=(by have h_:=y1;rw [show (Int.toNat 1)=1 from rfl] at h_;simpa [Addr.add,rd] using h_);clear ho hb y0 y1))
 go_ret
 exact ⟨rfl,HB.out⟩
end Go.Proofs.YthejnffhfmdpnaaDoor.Q

end

section
namespace Go.Proofs.YthejnffhfmdpnaaDoor.Spec
set_option linter.unusedVariables false
open Go.RowKit Go.Proofs.YthejnffhfmdpnaaDoor.Q Go.Proofs.YthejnffhfmdpnaaDoorW.PrintWords Go.Proofs.YthejnffhfmdpnaaDoorW.PrintLast Go.Proofs.YthejnffhfmdpnaaDoorW.PrintMore
theorem s66_ext {x y:S66} (h0:x.f0=y.f0) (h1:x.f1=y.f1) (h2:x.f2=y.f2):x=y:=by
 cases x;cases y;simp_all
instance:DecidableEq S66:=fun x y=>decidable_of_iff (x.f0=y.f0∧x.f1=y.f1∧x.f2=y.f2) ⟨fun h=>s66_ext h.1 h.2.1 h.2.2,fun h=>by rw [h];exact ⟨rfl,rfl,rfl⟩⟩
theorem toList_inj (a b:ByteArray):a.toList=b.toList ↔ a=b:=by
 rw [toList_data,toList_data]
 exact ⟨fun h=>by rw [← bs_data a, ← bs_data b,h],fun h=>by rw [h]⟩
theorem differ_iff (x y:S66):((!((x.f0.toList) == (y.f0.toList)) || (!((x.f1) == (y.f1)) || (!((x.f2.toList) == (y.f2.toList)))))=true) ↔ x≠y:=by
 rw [Bool.or_eq_true,Bool.or_eq_true,Bool.not_eq_true',Bool.not_eq_true',Bool.not_eq_true',beq_eq_false_iff_ne,beq_eq_false_iff_ne,beq_eq_false_iff_ne]
 simp only [Ne,toList_inj]
 constructor
 ·rintro (h|h|h) e
  ·exact h (by rw [e])
  ·exact h (by rw [e])
  ·exact h (by rw [e])
 ·intro h
  by_cases h0:x.f0=y.f0
  ·by_cases h1:x.f1=y.f1
   ·exact .inr (.inr (fun h2=>h (s66_ext h0 h1 h2)))
   ·exact .inr (.inl h1)
  ·exact .inl h0
theorem api_l0 (l m:List S66) (hl:l.length < 1000000) (he:l.length=m.length) (n:Nat): ∀(k i:Nat),i+n=l.length→n+1≤k→api_File.l0 k l m (l.length:Int) (i:Int)=some (decide (l.drop i=m.drop i)):=by
 induction n with
 |zero=>
  intro k i hi hk
  obtain ⟨k,rfl⟩: ∃m,k=m+1:=⟨k - 1,by omega⟩
  rw [api_File.l0,if_neg (by omega),List.drop_eq_nil_of_le (by omega),List.drop_eq_nil_of_le (by omega)]
  rfl
 |succ n ih=>
  intro k i hi hk
  obtain ⟨k,rfl⟩: ∃m,k=m+1:=⟨k - 1,by omega⟩
  have hil:i < l.length:=by omega
  have him:i < m.length:=by omega
  rw [api_File.l0,if_pos (by omega),if_pos (by omega),if_pos (by omega),if_pos (by omega),rd66_at l i hil,rd66_at m i him,List.drop_eq_getElem_cons hil,List.drop_eq_getElem_cons him]
  by_cases h:l[i]=m[i]
  ·rw [if_neg (fun e=>(differ_iff _ _).1 e h),w64 (by omega) (by omega),show (i:Int)+1=((i+1:Nat):Int) by omega,ih k (i+1) (by omega) (by omega)]
   congr 1
   apply decide_eq_decide.mpr
   rw [h]
   exact ⟨fun e=>by rw [e],fun e=>(List.cons.inj e).2⟩
  ·rw [if_pos ((differ_iff _ _).2 h)]
   congr 1
   exact (decide_eq_false (fun e=>h (List.cons.inj e).1)).symm
theorem apiFile (k:Nat) (l m:List S66) (hl:l.length < 1000000) (hk:l.length+1≤k):api_File.f k l m=some (decide (l=m)):=by
 unfold api_File.f
 by_cases he:l.length=m.length
 ·rw [if_pos (by omega)]
  have:=api_l0 l m hl he l.length k 0 (by omega) hk
  rwa [List.drop_zero,List.drop_zero] at this
 ·rw [if_neg (by omega)]
  congr 1
  exact (decide_eq_false (fun e=>he (by rw [e]))).symm
def sameP (e g f:Int) (l:List S66) (e' g' f':Int) (l':List S66):Bool:=decide (e=e'∧g=g'∧f=f'∧l=l')
theorem codeSame (k:Nat) (e g f:Int) (l:List S66) (m:List ByteArray) (e' g' f':Int) (l':List S66) (m':List ByteArray) (hl:l.length < 1000000) (hk:l.length+1≤k):speech_same.f k e g f l m e' g' f' l' m'=some (sameP e g f l e' g' f' l'):=by
 unfold speech_same.f sameP
 rw [apiFile k l l' hl hk]
 by_cases h1:e=e'
 ·by_cases h2:g=g'
  ·by_cases h3:f=f'
   ·simp [h1,h2,h3]
   ·simp [h1,h2,h3]
  ·simp [h1,h2]
 ·simp [h1]
def exI:ByteArray:=⟨#[1,1,97,0,1,120]⟩
theorem exOf:ofP exF=(exI,0):=by decide+kernel
theorem exTree:treeP exI=(exF,0):=by decide+kernel
theorem wk {n m:Int} (h:n=m) (h0: -9223372036854775808≤m) (h1:m < 9223372036854775808):wrap64 n=m:=by rw [h,w64 h0 h1]
theorem exDo1:doP 0 [] 1 0 exF=(0,[exI],0,0,0,[],[]):=by
 unfold doP
 rw [if_pos rfl,exOf,if_pos rfl,wk (m:=0) (by decide) (by decide) (by decide),if_neg (by decide)]
 rfl
theorem exDo2:doP 0 [exI] 2 0 []=(0,[exI],0,0,0,exF,[]):=by
 unfold doP
 rw [if_neg (by decide),if_pos rfl]
 unfold restoreP
 rw [wk (m:=0) (n:=(([exI]:List ByteArray).length:Int) - 1) (by decide) (by decide) (by decide),if_neg (by decide),if_neg (by decide),show rdOf ByteArray.empty [exI] 0=exI from rfl,exTree]
theorem exOver0:overB exL [false,false]=false:=by decide+kernel
theorem exOver1:overB exL [true,false]=false:=by decide+kernel
theorem exOver2:overB exL [true,true]=true:=by decide+kernel
theorem exFree0:freeB exL [false,false] 0=true:=by decide+kernel
theorem exFree1:freeB exL [true,false] 1=true:=by decide+kernel
theorem exRight:rightB exL=true:=by decide+kernel
theorem exFind2 (k:Nat) (left:Int) (tr:List ByteArray):find.f (k+1) exL [true,true] left [0,1] 0 tr=some (true,[true,true],left,[0,1]):=by
 rw [find.f,exOver2,if_pos rfl]
theorem exFind1 (k:Nat) (hk:6000≤k):find.f (k+4) exL [true,false] 99 [0] 0 [exI]=some (true,[true,true],98,[0,1]):=by
 rw [find.f,exOver1,if_neg (by decide),wk (n:=99 - 1) (m:=98) (by decide) (by decide) (by decide),if_neg (by decide),find.l0,if_pos (by decide),if_pos (by decide),find.l0,if_pos (by decide),if_neg (by decide),exFree1,if_neg (by decide)]
 have hx:rd_T45 exL (((0+1:Nat)):Int)=⟨3,4,⟨2,0,[]⟩,⟨0,0,0,exF,[]⟩⟩:=rfl
 rw [hx]
 dsimp only
 rw [codeDo (k+1) 0 [exI] 2 0 [] (by decide) (by decide) (by omega),exDo2]
 simp only [Option.bind_some]
 unfold takeF
 rw [if_neg (by decide)]
 dsimp only
 rw [codeSame (k+1) 0 0 0 exF [] 0 0 0 exF [] (by decide) (by show 1+1≤k+1;omega)]
 simp only [Option.bind_some]
 rw [if_neg (by decide+kernel),if_pos (by decide)]
 have:=exFind2 k 98 [exI]
 rw [show ([true,false]:List Bool).set (0+1) true= [true,true] from rfl,show ([0]:List Int)++[((0+1:Nat):Int)]= [0,1] from rfl,this]
 rfl
theorem exFind0 (k:Nat) (hk:6000≤k):find.f (k+7) exL [false,false] 100 [] 0 []=some (true,[true,true],98,[0,1]):=by
 rw [find.f,exOver0,if_neg (by decide),wk (n:=100 - 1) (m:=99) (by decide) (by decide) (by decide),if_neg (by decide),find.l0,if_pos (by decide),if_neg (by decide),exFree0,if_neg (by decide)]
 have hx:rd_T45 exL ((0:Nat):Int)=⟨1,2,⟨1,0,exF⟩,⟨0,0,0,[],[]⟩⟩:=rfl
 rw [hx]
 dsimp only
 rw [codeDo (k+5) 0 [] 1 0 exF (by decide) (by decide) (by omega),exDo1]
 simp only [Option.bind_some]
 unfold takeF
 rw [if_neg (by decide)]
 dsimp only
 rw [codeSame (k+5) 0 0 0 [] [] 0 0 0 [] [] (by decide) (by show 0+1≤k+5;omega)]
 simp only [Option.bind_some]
 rw [if_neg (by decide+kernel),if_pos (by decide)]
 rw [show ([false,false]:List Bool).set 0 true= [true,false] from rfl,show ([]:List Int)++[((0:Nat):Int)]= [0] from rfl,show k+5=(k+1)+4 by omega,exFind1 (k+1) (by omega)]
 rfl
theorem exOrder (k:Nat) (hk:6100≤k):order.f k exL 100=some ([0,1],0):=by
 obtain ⟨k,rfl⟩: ∃m,k=m+7:=⟨k - 7,by omega⟩
 unfold order.f
 rw [if_neg (by rw [exRight];decide),if_neg (by decide),show exL.map strip=exL from rfl,show List.replicate exL.length false= [false,false] from rfl,exFind0 k (by omega)]
 rfl
theorem awake (w:World):Calls Tryd.prog 14 #[] w fun e w'=>e= .returned (.bool true)∧Below w.heap.size w w':=awake_calls 7000 w (exOrder 7000 (by omega))
end Go.Proofs.YthejnffhfmdpnaaDoor.Spec

end

section
namespace Go.Proofs.YthejnffhfmdpnaaDoor.Q
open Go.RowKit Go.Proofs.YthejnffhfmdpnaaDoorW.PrintWords Go.Proofs.YthejnffhfmdpnaaDoorW.PrintLast Go.Proofs.YthejnffhfmdpnaaDoorW.PrintMore
set_option linter.unusedVariables false
set_option linter.unusedSimpArgs false
set_option maxHeartbeats 8000000 in
set_option maxRecDepth 100000 in
theorem logs_calls (fl:Int) (A:Option Addr) (c:Nat) (B:Option Addr) (c':Nat) (tr:List ByteArray) (w:World) (hA:Kd.C Kd.string w A tr.length tr) (hB:Kd.C Kd.string w B tr.length tr):
  Calls Tryd.prog 15 #[.agg #[.int .i64 fl, .slice A tr.length c], .agg #[.int .i64 fl, .slice B tr.length c']] w fun e w'=>e= .returned (.bool true)∧Below w.heap.size w w':=by
 have hlm:=hA.2.1
 have HA:=Aside0.mk hA
 have HB:=Aside0.mk hB
 clear hA hB
 go_enter Tryd.func15,Tryd.ntmps15
 go_wp2_with fail
 have HX:=Aside0.mk (((Bs.nil w).cons #[.int .i64 fl, .slice A tr.length c] 36 (by decide) (by decide) (by decide)).cons2 (w.heap.size+1) (by simp) #[.int .i64 fl, .slice B tr.length c'] 33 (by decide) (by decide) (by decide))
 have HW:=Aside0.mk (below_alloc (below_alloc (Below.refl w.heap.size w) (.cells #[.int .i64 fl, .slice A tr.length c] 36)) (.cells #[.int .i64 fl, .slice B tr.length c'] 33))
 generalize (w.alloc (.cells #[.int .i64 fl, .slice A tr.length c] 36)).alloc (.cells #[.int .i64 fl, .slice B tr.length c'] 33)=w0 at HX HW ⊢
 go_loopg [5] (tr.length+1) (fun gq v5 wr=> ∃i:Nat,v5= .int .i64 i∧Aside0 (i≤tr.length∧gq+i=tr.length+1)∧Aside0 (Bs [(w.heap.size+1,#[.int .i64 fl, .slice B tr.length c'],33),(w.heap.size,#[.int .i64 fl, .slice A tr.length c],36)] wr)∧Aside0 (Below w.heap.size w wr))
 case atStart=>exact ⟨0,rfl,⟨by omega⟩,HX,HW⟩
 case round=>
  clear HX HW
  obtain ⟨i,rfl,HG,HX,HW⟩:=hrel
  have x1:wr.cell? ⟨w.heap.size,1,none⟩=some (.slice A tr.length c):=(blk_cell HX.out.tail.head 1).trans rfl
  have y1:wr.cell? ⟨w.heap.size+1,1,none⟩=some (.slice B tr.length c'):=(blk_cell HX.out.head 1).trans rfl
  by_cases hi:i < tr.length
  ·have ltb:decide ((i:Int) < (tr.length:Int))=true:=decide_eq_true (by omega)
   have ltc:decide (i < tr.length)=true:=decide_eq_true hi
   obtain ⟨aA,eA,s1⟩:=Kd.at_string (Kd.C_below HA.out HW.out) (i:Int) (by omega) (by omega)
   cases eA
   obtain ⟨aB,eB,s2⟩:=Kd.at_string (Kd.C_below HB.out HW.out) (i:Int) (by omega) (by omega)
   cases eB
   rw [Int.toNat_natCast] at s1 s2
   have p200:=eq_true (show (0:Int)≤(i:Int) by omega)
   have q200:=eq_true (show (i:Int) < (tr.length:Int) by omega)
   go_wp2_with fail
   go_region
   have HX2:=Aside0.mk (HX.out.below (below_drew (Below.refl wr.heap.size wr)))
   have HW2:=Aside0.mk (below_drew HW.out)
   go_wp2_with fail
   go_roundg (tr.length - i)
   case measure=>have:=HG.out.2;omega
   case rel=>exact ⟨i+1,by go_num,⟨by have:=HG.out;omega⟩,HX2,HW2⟩
  ·have ltb:decide ((i:Int) < (tr.length:Int))=false:=decide_eq_false (by omega)
   have ltc:decide (i < tr.length)=false:=decide_eq_false hi
   go_wp2_with fail
   go_ret
   exact ⟨rfl,HW.out⟩
end Go.Proofs.YthejnffhfmdpnaaDoor.Q

end

section
namespace Go.Proofs.YthejnffhfmdpnaaDoor.Q
open Go.RowKit Go.Proofs.YthejnffhfmdpnaaDoorW.PrintWords Go.Proofs.YthejnffhfmdpnaaDoorW.PrintLast Go.Proofs.YthejnffhfmdpnaaDoorW.PrintMore
set_option linter.unusedVariables false
set_option linter.unusedSimpArgs false
abbrev DoA:=Int × List ByteArray × Int × Int × Int × List S66 × List ByteArray
def doesP (k:Nat):List S43→Int × List ByteArray→Prop
 | [],_=>True
 |c::cs,a=> ∃(kf:Int × Int × List S66) (x:DoA),barquelaw22_few.f k c.f0 c.f1 c.f2=some (kf.1,kf.2.1,kf.2.2)∧speech_Do.f k a.1 a.2 kf.1 kf.2.1 kf.2.2=some x∧barquelaw22_do.f k a.1 a.2 kf.1 kf.2.1 kf.2.2=some x∧barquelaw22_answers.f k x.2.2.1 x.2.2.2.1 x.2.2.2.2.1 x.2.2.2.2.2.1 x.2.2.2.2.2.2 x.2.2.1 x.2.2.2.1 x.2.2.2.2.1 x.2.2.2.2.2.1 x.2.2.2.2.2.2=some true∧x.2.2.2.2.2.2= []∧doesP k cs (x.1,x.2.1)
def DSt (w:World) (ga gb:Nat) (a b:Int × List ByteArray) (Aa:Option Addr) (ca:Nat) (Ab:Option Addr) (cb:Nat) (W:World):Prop:=
 Below w.heap.size w W∧W.heap[ga]? =some (.cells #[.int .i64 a.1, .slice Aa a.2.length ca] 36 (0,0))∧W.heap[gb]? =some (.cells #[.int .i64 b.1, .slice Ab b.2.length cb] 33 (0,0))∧Kd.R Kd.string 9 W w.heap.size (fun _=>True) (.slice Aa a.2.length ca) a.2∧Kd.R Kd.string 9 W w.heap.size (fun _=>True) (.slice Ab b.2.length cb) b.2∧w.heap.size≤ga∧w.heap.size≤gb∧ga≠gb
section
variable {w W W1:World} {ga gb:Nat} {a b:Int × List ByteArray} {Aa:Option Addr} {ca:Nat} {Ab:Option Addr} {cb:Nat}
theorem DSt.below (h:DSt w ga gb a b Aa ca Ab cb W) (hb:Below W.heap.size W W1):DSt w ga gb a b Aa ca Ab cb W1:=
 ⟨below_step h.1 hb,blk_below h.2.1 hb,blk_below h.2.2.1 hb,Kd.R_below h.2.2.2.1 hb,Kd.R_below h.2.2.2.2.1 hb,h.2.2.2.2.2⟩
theorem DSt.step (h:DSt w ga gb a b Aa ca Ab cb W) {a' b':Int × List ByteArray} {Ax:Option Addr} {cx:Nat} {Au:Option Addr} {cu:Nat} (hx:Kd.R Kd.string 9 W w.heap.size (fun _=>True) (.slice Ax a'.2.length cx) a'.2) (hu:Kd.R Kd.string 9 W w.heap.size (fun _=>True) (.slice Au b'.2.length cu) b'.2):
  DSt w ga gb a' b' Ax cx Au cu ((((W.setCell ⟨ga,0,none⟩ (.int .i64 a'.1)).setCell ⟨ga,1,none⟩ (.slice Ax a'.2.length cx)).setCell ⟨gb,0,none⟩ (.int .i64 b'.1)).setCell ⟨gb,1,none⟩ (.slice Au b'.2.length cu)):=by
 obtain ⟨hB,hA,hBb,_,_,h1,h2,hn⟩:=h
 have p1:(W.setCell ⟨ga,0,none⟩ (.int .i64 a'.1)).heap[ga]? =some (.cells #[.int .i64 a'.1, .slice Aa a.2.length ca] 36 (0,0)):=blk_put hA 0 _ rfl
 have p2:((W.setCell ⟨ga,0,none⟩ (.int .i64 a'.1)).setCell ⟨ga,1,none⟩ (.slice Ax a'.2.length cx)).heap[ga]? =some (.cells #[.int .i64 a'.1, .slice Ax a'.2.length cx] 36 (0,0)):=blk_put p1 1 _ rfl
 have q2:((W.setCell ⟨ga,0,none⟩ (.int .i64 a'.1)).setCell ⟨ga,1,none⟩ (.slice Ax a'.2.length cx)).heap[gb]? =some (.cells #[.int .i64 b.1, .slice Ab b.2.length cb] 33 (0,0)):=blk_far (blk_far hBb hn.symm _) hn.symm _
 have q3:(((W.setCell ⟨ga,0,none⟩ (.int .i64 a'.1)).setCell ⟨ga,1,none⟩ (.slice Ax a'.2.length cx)).setCell ⟨gb,0,none⟩ (.int .i64 b'.1)).heap[gb]? =some (.cells #[.int .i64 b'.1, .slice Ab b.2.length cb] 33 (0,0)):=blk_put q2 0 _ rfl
 have hR: ∀{v:Value} {l:List ByteArray},Kd.R Kd.string 9 W w.heap.size (fun _=>True) v l→Kd.R Kd.string 9 ((((W.setCell ⟨ga,0,none⟩ (.int .i64 a'.1)).setCell ⟨ga,1,none⟩ (.slice Ax a'.2.length cx)).setCell ⟨gb,0,none⟩ (.int .i64 b'.1)).setCell ⟨gb,1,none⟩ (.slice Au b'.2.length cu)) w.heap.size (fun _=>True) v l:=fun h=>Kd.R_set (Kd.R_set (Kd.R_set (Kd.R_set h hA (by decide) 0 _) p1 (by decide) 1 _) q2 (by decide) 0 _) q3 (by decide) 1 _
 exact ⟨below_set (below_set (below_set (below_set hB h1) h1) h2) h2,blk_far (blk_far p2 hn _) hn _,blk_put q3 1 _ rfl,hR hx,hR hu,h1,h2,hn⟩
end
theorem doesP.at_ {k:Nat} {l:List S43} {i:Nat} {a:Int × List ByteArray} (h:doesP k ((l.take 60).drop i) a) (hi:i < l.length) (h60:i < 60):doesP k (rd_T43 l (i:Int)::(l.take 60).drop (i+1)) a:=by
 have e:(l.take 60).drop i=rd_T43 l (i:Int)::(l.take 60).drop (i+1):=by
  have hl:i < (l.take 60).length:=by rw [List.length_take];omega
  rw [List.drop_eq_getElem_cons hl]
  congr 1
  rw [List.getElem_take,rd_T43,Int.toNat_natCast,List.getD_eq_getElem?_getD,List.getElem?_eq_getElem hi,Option.getD_some]
 rw [← e]
 exact h
set_option maxHeartbeats 8000000 in
set_option maxRecDepth 100000 in
theorem does_calls (k:Nat) (A0:Option Addr) (c0:Nat) (l:List S43) (w:World) (hr0:Kd.C k43 w A0 l.length l) (hc0:l.length≤c0) (h:doesP k (l.take 60) (0,[])) (haw: ∀w,Calls Tryd.prog 14 #[] w fun e w'=>e= .returned (.bool true)∧Below w.heap.size w w'):
  Calls Tryd.prog 5 #[.slice A0 l.length c0] w fun e w'=>e= .returned (.bool true)∧Below w.heap.size w w':=by
 have hlm:=hr0.2.1
 have HR0:=Aside0.mk hr0
 have HAw:=Aside0.mk haw
 have HP:=Aside0.mk h
 clear hr0 hc0 h haw
 go_enter Tryd.func5,Tryd.ntmps5
 go_wp2_with fail
 have HS:=Aside0.mk (show DSt w w.heap.size (w.heap.size+1) (0,[]) (0,[]) none 0 none 0 ((w.alloc (.cells #[.int .i64 0, .slice none 0 0] 36)).alloc (.cells #[.int .i64 0, .slice none 0 0] 33)) from ⟨below_alloc (below_alloc (Below.refl _ _) _) _,blk_alloc (blk_new _ _) _,by have:=blk_new (w.alloc (.cells #[.int .i64 0, .slice none 0 0] 36)) (.cells #[.int .i64 0, .slice none 0 0] 33);rw [show (w.alloc (.cells #[.int .i64 0, .slice none 0 0] 36)).heap.size=w.heap.size+1 by simp] at this;exact this,Kd.R_nil _ _ _ _ _,Kd.R_nil _ _ _ _ _,Nat.le_refl _,Nat.le_succ _,by omega⟩)
 generalize (w.alloc (.cells #[.int .i64 0, .slice none 0 0] 36)).alloc (.cells #[.int .i64 0, .slice none 0 0] 33)=w0 at HS ⊢
 generalize w.heap.size+1=gb at HS ⊢
 generalize hga:w.heap.size=ga at HS ⊢
 go_loopg [5] (l.length+1) (fun gq v5 wr=> ∃(i:Nat) (a:Int × List ByteArray) (Aa:Option Addr) (ca:Nat) (Ab:Option Addr) (cb:Nat),v5= .int .i64 i∧Aside0 (i≤l.length∧gq+i=l.length+1)∧Aside0 (doesP k ((l.take 60).drop i) a)∧Aside0 (DSt w ga gb a a Aa ca Ab cb wr))
 case atStart=>exact ⟨0,(0,[]),none,0,none,0,rfl,⟨by omega⟩,by rw [List.drop_zero];exact HP,HS⟩
 case round=>
  clear HS HP
  obtain ⟨i,a,Aa,ca,Ab,cb,rfl,HG,HP,HS⟩:=hrel
  by_cases hi:i < l.length
  ·have ltb:decide ((i:Int) < (l.length:Int))=true:=decide_eq_true (by omega)
   have ltc:decide (i < l.length)=true:=decide_eq_true hi
   by_cases h60:i < 60
   ·have l60:decide ((i:Int) < 60)=true:=decide_eq_true (by omega)
    have l60c:decide (i < 60)=true:=decide_eq_true h60
    obtain ⟨c,hc⟩: ∃c,c=rd_T43 l (i:Int):=⟨_,rfl⟩
    have hp:=HP.out.at_ hi h60
    rw [← hc] at hp
    obtain ⟨kf,x,h1,h2,h3,h5,h6,h8⟩:=hp
    have Hfew:=Aside0.mk h1
    have HDo:=Aside0.mk h2
    have Hdo:=Aside0.mk h3
    have HAn:=Aside0.mk h5
    have hm0:((x.2.2.2.2.2.2.length:Int) != 0)=false:=by rw [h6];rfl
    have hm1:(x.2.2.2.2.2.2.length != 0)=false:=by rw [h6];rfl
    have HP2:=Aside0.mk h8
    clear h1 h2 h3 h5 h6 h8 HP
    obtain ⟨ad,A2,c2,ead,x0_,x1_,x2_,l2,g2⟩:=at_T43 (Kd.C_below HR0.out HS.out.1) (i:Int) (by omega) (by omega)
    cases ead
    rw [Int.toNat_natCast] at x0_ x1_ x2_
    rw [← hc] at x0_ x1_ x2_ l2 g2
    have HCk:=Aside0.mk (And.intro l2 g2)
    have p200:=eq_true (show (0:Int)≤(i:Int) by omega)
    have q200:=eq_true (show (i:Int) < (l.length:Int) by omega)
    have HB:=Aside0.mk HS.out.1
    clear l2 g2 hc
    go_wp2_with (first|(go_at_call 17;(with_reducible refine (barquelaw22_few.calls k c.f0 c.f1 A2 c2 c.f2 kf.1 kf.2.1 kf.2.2 _ HCk.out.2 HCk.out.1 Hfew.out).mono ?_);rintro e w1 ⟨v2,rfl,h2,hb⟩;obtain ⟨Ak,ck,rfl⟩:=Kd.R_slice h2;have HK:=Aside0.mk h2;have nS_:=Aside0.mk (HS.out.below hb);have nB_:=Aside0.mk (below_step HB.out hb);clear HS HB;have HS:=nS_;have HB:=nB_;clear nS_ nB_;clear h2 hb HCk x0_ x1_ x2_;have hb:=below_alloc (Below.refl w1.heap.size w1) (.cells #[.int .i64 kf.1, .int .i64 kf.2.1, .slice Ak kf.2.2.length ck] 43);have HX:=Aside0.mk ((Bs.nil w1).cons #[.int .i64 kf.1, .int .i64 kf.2.1, .slice Ak kf.2.2.length ck] 43 (by decide) (by decide) (by decide));have nS_:=Aside0.mk (HS.out.below hb);have nB_:=Aside0.mk (below_step HB.out hb);have nK_:=Aside0.mk (Kd.R_below HK.out hb);clear HS HB HK;have HS:=nS_;have HB:=nB_;have HK:=nK_;clear nS_ nB_ nK_;have a0:(w1.alloc (.cells #[.int .i64 kf.1, .int .i64 kf.2.1, .slice Ak kf.2.2.length ck] 43)).cell? ⟨ga,0,none⟩=some (.int .i64 a.1):=(blk_cell HS.out.2.1 0).trans rfl;have a1:(w1.alloc (.cells #[.int .i64 kf.1, .int .i64 kf.2.1, .slice Ak kf.2.2.length ck] 43)).cell? ⟨ga,1,none⟩=some (.slice Aa a.2.length ca):=(blk_cell HS.out.2.1 1).trans rfl;have k0:(w1.alloc (.cells #[.int .i64 kf.1, .int .i64 kf.2.1, .slice Ak kf.2.2.length ck] 43)).cell? ⟨w1.heap.size,0,none⟩=some (.int .i64 kf.1):=(blk_cell HX.out.head 0).trans rfl;have k1:(w1.alloc (.cells #[.int .i64 kf.1, .int .i64 kf.2.1, .slice Ak kf.2.2.length ck] 43)).cell? ⟨w1.heap.size,1,none⟩=some (.int .i64 kf.2.1):=(blk_cell HX.out.head 1).trans rfl;have k2:(w1.alloc (.cells #[.int .i64 kf.1, .int .i64 kf.2.1, .slice Ak kf.2.2.length ck] 43)).cell? ⟨w1.heap.size,2,none⟩=some (.slice Ak kf.2.2.length ck):=(blk_cell HX.out.head 2).trans rfl;clear hb))
    go_wp2_with (first|(go_at_call 18;have hra_:=HS.out.2.2.2.1;(with_reducible refine (speech_Do.calls k a.1 Aa ca a.2 kf.1 kf.2.1 Ak ck kf.2.2 _ (Kd.R_reads' hra_).2.2 (Kd.R_reads' hra_).2.1 (Kd.R_reads' HK.out).2.2 (Kd.R_reads' HK.out).2.1 x HDo.out).mono ?_);rintro e w3 ⟨v1,v5,v6,rfl,hv,h5,h6,hb⟩;have n1_:=Aside0.mk (show Kd.R Kd.string 9 w3 w.heap.size (fun _=>True) v1 x.2.1 from hv.elim (fun h=>by rw [h.1,h.2];exact Kd.R_below hra_ hb) (fun h=>Kd.R_lower h HB.out.size));obtain ⟨Ax,cx,rfl⟩:=Kd.R_slice n1_.out;obtain ⟨Af,cf,rfl⟩:=Kd.R_slice h5;obtain ⟨Am,cm,rfl⟩:=Kd.R_slice h6;have HV1:=n1_;have HV5:=Aside0.mk h5;have HV6:=Aside0.mk h6;have nS_:=Aside0.mk (HS.out.below hb);have nB_:=Aside0.mk (below_step HB.out hb);have nK_:=Aside0.mk (Kd.R_below HK.out hb);have nX_:=Aside0.mk (HX.out.below hb);clear HS HB HK HX;have HS:=nS_;have HB:=nB_;have HK:=nK_;have HX:=nX_;clear nS_ nB_ nK_ nX_;clear n1_ hv h5 h6 hb hra_;have hb:=below_alloc (below_alloc (Below.refl w3.heap.size w3) (.cells #[.int .i64 x.1, .slice Ax x.2.1.length cx] 36)) (.cells #[.int .i64 x.2.2.1, .int .i64 x.2.2.2.1, .int .i64 x.2.2.2.2.1, .slice Af x.2.2.2.2.2.1.length cf, .slice Am x.2.2.2.2.2.2.length cm] 39);have nX_:=Aside0.mk ((HX.out.cons2 w3.heap.size rfl #[.int .i64 x.1, .slice Ax x.2.1.length cx] 36 (by decide) (by decide) (by decide)).cons2 (w3.heap.size+1) (by simp) #[.int .i64 x.2.2.1, .int .i64 x.2.2.2.1, .int .i64 x.2.2.2.2.1, .slice Af x.2.2.2.2.2.1.length cf, .slice Am x.2.2.2.2.2.2.length cm] 39 (by decide) (by decide) (by decide));have nS_:=Aside0.mk (HS.out.below hb);have nB_:=Aside0.mk (below_step HB.out hb);have nK_:=Aside0.mk (Kd.R_below HK.out hb);have nV1_:=Aside0.mk (Kd.R_below HV1.out hb);have nV5_:=Aside0.mk (Kd.R_below HV5.out hb);have nV6_:=Aside0.mk (Kd.R_below HV6.out hb);clear HS HB HK HV1 HV5 HV6;have HS:=nS_;have HB:=nB_;have HK:=nK_;have HV1:=nV1_;have HV5:=nV5_;have HV6:=nV6_;clear nS_ nB_ nK_ nV1_ nV5_ nV6_;clear HX hb;have HX:=nX_;clear nX_;clear a0 a1 k0 k1 k2;have b0:((w3.alloc (.cells #[.int .i64 x.1, .slice Ax x.2.1.length cx] 36)).alloc (.cells #[.int .i64 x.2.2.1, .int .i64 x.2.2.2.1, .int .i64 x.2.2.2.2.1, .slice Af x.2.2.2.2.2.1.length cf, .slice Am x.2.2.2.2.2.2.length cm] 39)).cell? ⟨gb,0,none⟩=some (.int .i64 a.1):=(blk_cell HS.out.2.2.1 0).trans rfl;have b1:((w3.alloc (.cells #[.int .i64 x.1, .slice Ax x.2.1.length cx] 36)).alloc (.cells #[.int .i64 x.2.2.1, .int .i64 x.2.2.2.1, .int .i64 x.2.2.2.2.1, .slice Af x.2.2.2.2.2.1.length cf, .slice Am x.2.2.2.2.2.2.length cm] 39)).cell? ⟨gb,1,none⟩=some (.slice Ab a.2.length cb):=(blk_cell HS.out.2.2.1 1).trans rfl;have k0:((w3.alloc (.cells #[.int .i64 x.1, .slice Ax x.2.1.length cx] 36)).alloc (.cells #[.int .i64 x.2.2.1, .int .i64 x.2.2.2.1, .int .i64 x.2.2.2.2.1, .slice Af x.2.2.2.2.2.1.length cf, .slice Am x.2.2.2.2.2.2.length cm] 39)).cell? ⟨w1.heap.size,0,none⟩=some (.int .i64 kf.1):=(blk_cell HX.out.tail.tail.head 0).trans rfl;have k1:((w3.alloc (.cells #[.int .i64 x.1, .slice Ax x.2.1.length cx] 36)).alloc (.cells #[.int .i64 x.2.2.1, .int .i64 x.2.2.2.1, .int .i64 x.2.2.2.2.1, .slice Af x.2.2.2.2.2.1.length cf, .slice Am x.2.2.2.2.2.2.length cm] 39)).cell? ⟨w1.heap.size,1,none⟩=some (.int .i64 kf.2.1):=(blk_cell HX.out.tail.tail.head 1).trans rfl;have k2:((w3.alloc (.cells #[.int .i64 x.1, .slice Ax x.2.1.length cx] 36)).alloc (.cells #[.int .i64 x.2.2.1, .int .i64 x.2.2.2.1, .int .i64 x.2.2.2.2.1, .slice Af x.2.2.2.2.2.1.length cf, .slice Am x.2.2.2.2.2.2.length cm] 39)).cell? ⟨w1.heap.size,2,none⟩=some (.slice Ak kf.2.2.length ck):=(blk_cell HX.out.tail.tail.head 2).trans rfl))
    generalize ((w3.alloc (.cells #[.int .i64 x.1, .slice Ax x.2.1.length cx] 36)).alloc (.cells #[.int .i64 x.2.2.1, .int .i64 x.2.2.2.1, .int .i64 x.2.2.2.2.1, .slice Af x.2.2.2.2.2.1.length cf, .slice Am x.2.2.2.2.2.2.length cm] 39))=w4 at HS HB HK HX HV1 HV5 HV6 b0 b1 k0 k1 k2 ⊢
    go_wp2_with (first|(go_at_call 16;have hra_:=HS.out.2.2.2.2.1;(with_reducible refine (barquelaw22_do.calls k a.1 Ab cb a.2 kf.1 kf.2.1 Ak ck kf.2.2 _ (Kd.R_reads' hra_).2.2 (Kd.R_reads' hra_).2.1 (Kd.R_reads' HK.out).2.2 (Kd.R_reads' HK.out).2.1 x Hdo.out).mono ?_);rintro e w5 ⟨v1,v5,v6,rfl,hv,h5,h6,hb⟩;have n1_:=Aside0.mk (show Kd.R Kd.string 9 w5 w.heap.size (fun _=>True) v1 x.2.1 from hv.elim (fun h=>by rw [h.1,h.2];exact Kd.R_below hra_ hb) (fun h=>Kd.R_lower h HB.out.size));obtain ⟨Au,cu,rfl⟩:=Kd.R_slice n1_.out;obtain ⟨Ag,cg,rfl⟩:=Kd.R_slice h5;obtain ⟨An,cn,rfl⟩:=Kd.R_slice h6;have HU1:=n1_;have HU5:=Aside0.mk h5;have HU6:=Aside0.mk h6;have nS_:=Aside0.mk (HS.out.below hb);have nB_:=Aside0.mk (below_step HB.out hb);have nK_:=Aside0.mk (Kd.R_below HK.out hb);have nX_:=Aside0.mk (HX.out.below hb);have nV1_:=Aside0.mk (Kd.R_below HV1.out hb);have nV5_:=Aside0.mk (Kd.R_below HV5.out hb);have nV6_:=Aside0.mk (Kd.R_below HV6.out hb);clear HS HB HK HX HV1 HV5 HV6;have HS:=nS_;have HB:=nB_;have HK:=nK_;have HX:=nX_;have HV1:=nV1_;have HV5:=nV5_;have HV6:=nV6_;clear nS_ nB_ nK_ nX_ nV1_ nV5_ nV6_;clear n1_ hv h5 h6 hb hra_;have hb:=below_alloc (below_alloc (Below.refl w5.heap.size w5) (.cells #[.int .i64 x.1, .slice Au x.2.1.length cu] 33)) (.cells #[.int .i64 x.2.2.1, .int .i64 x.2.2.2.1, .int .i64 x.2.2.2.2.1, .slice Ag x.2.2.2.2.2.1.length cg, .slice An x.2.2.2.2.2.2.length cn] 39);have nX_:=Aside0.mk ((HX.out.cons2 w5.heap.size rfl #[.int .i64 x.1, .slice Au x.2.1.length cu] 33 (by decide) (by decide) (by decide)).cons2 (w5.heap.size+1) (by simp) #[.int .i64 x.2.2.1, .int .i64 x.2.2.2.1, .int .i64 x.2.2.2.2.1, .slice Ag x.2.2.2.2.2.1.length cg, .slice An x.2.2.2.2.2.2.length cn] 39 (by decide) (by decide) (by decide));have nS_:=Aside0.mk (HS.out.below hb);have nB_:=Aside0.mk (below_step HB.out hb);have nK_:=Aside0.mk (Kd.R_below HK.out hb);have nV1_:=Aside0.mk (Kd.R_below HV1.out hb);have nV5_:=Aside0.mk (Kd.R_below HV5.out hb);have nV6_:=Aside0.mk (Kd.R_below HV6.out hb);have nU1_:=Aside0.mk (Kd.R_below HU1.out hb);have nU5_:=Aside0.mk (Kd.R_below HU5.out hb);have nU6_:=Aside0.mk (Kd.R_below HU6.out hb);clear HS HB HK HV1 HV5 HV6 HU1 HU5 HU6;have HS:=nS_;have HB:=nB_;have HK:=nK_;have HV1:=nV1_;have HV5:=nV5_;have HV6:=nV6_;have HU1:=nU1_;have HU5:=nU5_;have HU6:=nU6_;clear nS_ nB_ nK_ nV1_ nV5_ nV6_ nU1_ nU5_ nU6_;clear HX hb;have HX:=nX_;clear nX_;clear b0 b1 k0 k1 k2;have x0:((w5.alloc (.cells #[.int .i64 x.1, .slice Au x.2.1.length cu] 33)).alloc (.cells #[.int .i64 x.2.2.1, .int .i64 x.2.2.2.1, .int .i64 x.2.2.2.2.1, .slice Ag x.2.2.2.2.2.1.length cg, .slice An x.2.2.2.2.2.2.length cn] 39)).cell? ⟨w3.heap.size,0,none⟩=some (.int .i64 x.1):=(blk_cell HX.out.tail.tail.tail.head 0).trans rfl;have x1:((w5.alloc (.cells #[.int .i64 x.1, .slice Au x.2.1.length cu] 33)).alloc (.cells #[.int .i64 x.2.2.1, .int .i64 x.2.2.2.1, .int .i64 x.2.2.2.2.1, .slice Ag x.2.2.2.2.2.1.length cg, .slice An x.2.2.2.2.2.2.length cn] 39)).cell? ⟨w3.heap.size,1,none⟩=some (.slice Ax x.2.1.length cx):=(blk_cell HX.out.tail.tail.tail.head 1).trans rfl;have u0:((w5.alloc (.cells #[.int .i64 x.1, .slice Au x.2.1.length cu] 33)).alloc (.cells #[.int .i64 x.2.2.1, .int .i64 x.2.2.2.1, .int .i64 x.2.2.2.2.1, .slice Ag x.2.2.2.2.2.1.length cg, .slice An x.2.2.2.2.2.2.length cn] 39)).cell? ⟨w5.heap.size,0,none⟩=some (.int .i64 x.1):=(blk_cell HX.out.tail.head 0).trans rfl;have u1:((w5.alloc (.cells #[.int .i64 x.1, .slice Au x.2.1.length cu] 33)).alloc (.cells #[.int .i64 x.2.2.1, .int .i64 x.2.2.2.1, .int .i64 x.2.2.2.2.1, .slice Ag x.2.2.2.2.2.1.length cg, .slice An x.2.2.2.2.2.2.length cn] 39)).cell? ⟨w5.heap.size,1,none⟩=some (.slice Au x.2.1.length cu):=(blk_cell HX.out.tail.head 1).trans rfl))
    clear HK
    generalize ((w5.alloc (.cells #[.int .i64 x.1, .slice Au x.2.1.length cu] 33)).alloc (.cells #[.int .i64 x.2.2.1, .int .i64 x.2.2.2.1, .int .i64 x.2.2.2.2.1, .slice Ag x.2.2.2.2.2.1.length cg, .slice An x.2.2.2.2.2.2.length cn] 39))=w6 at HS HB HX HV1 HV5 HV6 HU1 HU5 HU6 x0 x1 u0 u1 ⊢
    go_wp2_with (first|(go_at_call 15;(with_reducible refine (logs_calls x.1 Ax cx Au cu x.2.1 _ (Kd.R_reads' HV1.out).2.2 (Kd.R_reads' HU1.out).2.2).mono ?_);rintro e w7 ⟨rfl,hb⟩;have nS_:=Aside0.mk (HS.out.below hb);have nB_:=Aside0.mk (below_step HB.out hb);have nX_:=Aside0.mk (HX.out.below hb);have nV1_:=Aside0.mk (Kd.R_below HV1.out hb);have nV5_:=Aside0.mk (Kd.R_below HV5.out hb);have nV6_:=Aside0.mk (Kd.R_below HV6.out hb);have nU1_:=Aside0.mk (Kd.R_below HU1.out hb);have nU5_:=Aside0.mk (Kd.R_below HU5.out hb);have nU6_:=Aside0.mk (Kd.R_below HU6.out hb);clear HS HB HX HV1 HV5 HV6 HU1 HU5 HU6;have HS:=nS_;have HB:=nB_;have HX:=nX_;have HV1:=nV1_;have HV5:=nV5_;have HV6:=nV6_;have HU1:=nU1_;have HU5:=nU5_;have HU6:=nU6_;clear nS_ nB_ nX_ nV1_ nV5_ nV6_ nU1_ nU5_ nU6_;clear hb x0 x1 u0 u1;have y0:w7.cell? ⟨(w3.heap.size+1),0,none⟩=some (.int .i64 x.2.2.1):=(blk_cell HX.out.tail.tail.head 0).trans rfl;have y1:w7.cell? ⟨(w3.heap.size+1),1,none⟩=some (.int .i64 x.2.2.2.1):=(blk_cell HX.out.tail.tail.head 1).trans rfl;have y2:w7.cell? ⟨(w3.heap.size+1),2,none⟩=some (.int .i64 x.2.2.2.2.1):=(blk_cell HX.out.tail.tail.head 2).trans rfl;have y3:w7.cell? ⟨(w3.heap.size+1),3,none⟩=some (.slice Af x.2.2.2.2.2.1.length cf):=(blk_cell HX.out.tail.tail.head 3).trans rfl;have y4:w7.cell? ⟨(w3.heap.size+1),4,none⟩=some (.slice Am x.2.2.2.2.2.2.length cm):=(blk_cell HX.out.tail.tail.head 4).trans rfl;have v0:w7.cell? ⟨(w5.heap.size+1),0,none⟩=some (.int .i64 x.2.2.1):=(blk_cell HX.out.head 0).trans rfl;have v1:w7.cell? ⟨(w5.heap.size+1),1,none⟩=some (.int .i64 x.2.2.2.1):=(blk_cell HX.out.head 1).trans rfl;have v2:w7.cell? ⟨(w5.heap.size+1),2,none⟩=some (.int .i64 x.2.2.2.2.1):=(blk_cell HX.out.head 2).trans rfl;have v3:w7.cell? ⟨(w5.heap.size+1),3,none⟩=some (.slice Ag x.2.2.2.2.2.1.length cg):=(blk_cell HX.out.head 3).trans rfl;have v4:w7.cell? ⟨(w5.heap.size+1),4,none⟩=some (.slice An x.2.2.2.2.2.2.length cn):=(blk_cell HX.out.head 4).trans rfl))
    go_wp2_with (first|(go_at_call 19;(with_reducible refine (barquelaw22_answers.calls k x.2.2.1 x.2.2.2.1 x.2.2.2.2.1 Af cf x.2.2.2.2.2.1 Am cm x.2.2.2.2.2.2 x.2.2.1 x.2.2.2.1 x.2.2.2.2.1 Ag cg x.2.2.2.2.2.1 An cn x.2.2.2.2.2.2 true _ (Kd.R_reads' HV5.out).2.2 (Kd.R_reads' HV5.out).2.1 (Kd.R_reads' HV6.out).2.2 (Kd.R_reads' HV6.out).2.1 (Kd.R_reads' HU5.out).2.2 (Kd.R_reads' HU5.out).2.1 (Kd.R_reads' HU6.out).2.2 (Kd.R_reads' HU6.out).2.1 HAn.out).mono ?_);rintro e w8 ⟨rfl,hb⟩;have nS_:=Aside0.mk (HS.out.below hb);have nB_:=Aside0.mk (below_step HB.out hb);have nX_:=Aside0.mk (HX.out.below hb);have nV1_:=Aside0.mk (Kd.R_below HV1.out hb);have nV5_:=Aside0.mk (Kd.R_below HV5.out hb);have nV6_:=Aside0.mk (Kd.R_below HV6.out hb);have nU1_:=Aside0.mk (Kd.R_below HU1.out hb);have nU5_:=Aside0.mk (Kd.R_below HU5.out hb);have nU6_:=Aside0.mk (Kd.R_below HU6.out hb);clear HS HB HX HV1 HV5 HV6 HU1 HU5 HU6;have HS:=nS_;have HB:=nB_;have HX:=nX_;have HV1:=nV1_;have HV5:=nV5_;have HV6:=nV6_;have HU1:=nU1_;have HU5:=nU5_;have HU6:=nU6_;clear nS_ nB_ nX_ nV1_ nV5_ nV6_ nU1_ nU5_ nU6_;clear hb y0 y1 y2 y3 y4 v0 v1 v2 v3 v4;have y4:w8.cell? ⟨(w3.heap.size+1),4,none⟩=some (.slice Am x.2.2.2.2.2.2.length cm):=(blk_cell HX.out.tail.tail.head 4).trans rfl;have a0:w8.cell? ⟨ga,0,none⟩=some (.int .i64 a.1):=(blk_cell HS.out.2.1 0).trans rfl;have a1:w8.cell? ⟨ga,1,none⟩=some (.slice Aa a.2.length ca):=(blk_cell HS.out.2.1 1).trans rfl;have b0:w8.cell? ⟨gb,0,none⟩=some (.int .i64 a.1):=(blk_cell HS.out.2.2.1 0).trans rfl;have b1:w8.cell? ⟨gb,1,none⟩=some (.slice Ab a.2.length cb):=(blk_cell HS.out.2.2.1 1).trans rfl))
    go_wp2_with (first|(go_at_call 15;have hra_:=HS.out.2.2.2.1;have hrb_:=HS.out.2.2.2.2.1;(with_reducible refine (logs_calls a.1 Aa ca Ab cb a.2 _ (Kd.R_reads' hra_).2.2 (Kd.R_reads' hrb_).2.2).mono ?_);rintro e w9 ⟨rfl,hb⟩;have nS_:=Aside0.mk (HS.out.below hb);have nB_:=Aside0.mk (below_step HB.out hb);have nX_:=Aside0.mk (HX.out.below hb);have nV1_:=Aside0.mk (Kd.R_below HV1.out hb);have nV5_:=Aside0.mk (Kd.R_below HV5.out hb);have nV6_:=Aside0.mk (Kd.R_below HV6.out hb);have nU1_:=Aside0.mk (Kd.R_below HU1.out hb);have nU5_:=Aside0.mk (Kd.R_below HU5.out hb);have nU6_:=Aside0.mk (Kd.R_below HU6.out hb);clear HS HB HX HV1 HV5 HV6 HU1 HU5 HU6;have HS:=nS_;have HB:=nB_;have HX:=nX_;have HV1:=nV1_;have HV5:=nV5_;have HV6:=nV6_;have HU1:=nU1_;have HU5:=nU5_;have HU6:=nU6_;clear nS_ nB_ nX_ nV1_ nV5_ nV6_ nU1_ nU5_ nU6_;clear hb hra_ hrb_ y4 a0 a1 b0 b1;have a0:w9.cell? ⟨ga,0,none⟩=some (.int .i64 a.1):=(blk_cell HS.out.2.1 0).trans rfl;have a1:w9.cell? ⟨ga,1,none⟩=some (.slice Aa a.2.length ca):=(blk_cell HS.out.2.1 1).trans rfl;have af0:=blk_frozen HS.out.2.1 0;have af1:=blk_frozen HS.out.2.1 1;have x0:w9.cell? ⟨w3.heap.size,0,none⟩=some (.int .i64 x.1):=(blk_cell HX.out.tail.tail.tail.head 0).trans rfl;have x1:w9.cell? ⟨w3.heap.size,1,none⟩=some (.slice Ax x.2.1.length cx):=(blk_cell HX.out.tail.tail.tail.head 1).trans rfl;have hB10:((w9.setCell ⟨ga,0,none⟩ (.int .i64 x.1)).setCell ⟨ga,1,none⟩ (.slice Ax x.2.1.length cx)).heap[gb]? =some (.cells #[.int .i64 a.1, .slice Ab a.2.length cb] 33 (0,0)):=blk_far (blk_far HS.out.2.2.1 HS.out.2.2.2.2.2.2.2.symm _) HS.out.2.2.2.2.2.2.2.symm _;have hne:w5.heap.size≠ga:=fun e=>(by have h_:=HX.out.tail.head;rw [e,HS.out.2.1] at h_;simp at h_);have b0:((w9.setCell ⟨ga,0,none⟩ (.int .i64 x.1)).setCell ⟨ga,1,none⟩ (.slice Ax x.2.1.length cx)).cell? ⟨gb,0,none⟩=some (.int .i64 a.1):=(blk_cell hB10 0).trans rfl;have b1:((w9.setCell ⟨ga,0,none⟩ (.int .i64 x.1)).setCell ⟨ga,1,none⟩ (.slice Ax x.2.1.length cx)).cell? ⟨gb,1,none⟩=some (.slice Ab a.2.length cb):=(blk_cell hB10 1).trans rfl;have bf0:=blk_frozen hB10 0;have bf1:=blk_frozen hB10 1;have hU10:((w9.setCell ⟨ga,0,none⟩ (.int .i64 x.1)).setCell ⟨ga,1,none⟩ (.slice Ax x.2.1.length cx)).heap[w5.heap.size]? =some (.cells #[.int .i64 x.1, .slice Au x.2.1.length cu] 33 (0,0)):=blk_far (blk_far (HX.out.tail.head) hne _) hne _;have u0:((w9.setCell ⟨ga,0,none⟩ (.int .i64 x.1)).setCell ⟨ga,1,none⟩ (.slice Ax x.2.1.length cx)).cell? ⟨w5.heap.size,0,none⟩=some (.int .i64 x.1):=(blk_cell hU10 0).trans rfl;have u1:((w9.setCell ⟨ga,0,none⟩ (.int .i64 x.1)).setCell ⟨ga,1,none⟩ (.slice Ax x.2.1.length cx)).cell? ⟨w5.heap.size,1,none⟩=some (.slice Au x.2.1.length cu):=(blk_cell hU10 1).trans rfl;clear hB10 hU10))
    have HS2:=Aside0.mk (HS.out.step (a':=(x.1,x.2.1)) (b':=(x.1,x.2.1)) HV1.out HU1.out)
    go_roundg (l.length - i)
    case measure=>have:=HG.out.2;omega
    case rel=>exact ⟨i+1,(x.1,x.2.1),Ax,cx,Au,cu,by go_num,⟨by have:=HG.out;omega⟩,HP2,HS2⟩
   ·have l60:decide ((i:Int) < 60)=false:=decide_eq_false (by omega)
    have l60c:decide (i < 60)=false:=decide_eq_false h60
    go_wp2_with (first|(go_at_call 14;(with_reducible refine (HAw.out _).mono ?_);rintro e w1 ⟨rfl,hb⟩;have HB:=Aside0.mk (below_step HS.out.1 hb);clear hb))
    go_ret
    exact ⟨rfl,HB.out⟩
  ·have ltb:decide ((i:Int) < (l.length:Int))=false:=decide_eq_false (by omega)
   have ltc:decide (i < l.length)=false:=decide_eq_false hi
   go_wp2_with (first|(go_at_call 14;(with_reducible refine (HAw.out _).mono ?_);rintro e w1 ⟨rfl,hb⟩;have HB:=Aside0.mk (below_step HS.out.1 hb);clear hb))
   go_ret
   exact ⟨rfl,HB.out⟩
end Go.Proofs.YthejnffhfmdpnaaDoor.Q

end

section
namespace Go.Proofs.YthejnffhfmdpnaaDoor.Spec
set_option linter.unusedVariables false
open Go.RowKit Go.Proofs.YthejnffhfmdpnaaDoor.Q Go.Proofs.YthejnffhfmdpnaaDoorW.PrintWords Go.Proofs.YthejnffhfmdpnaaDoorW.PrintLast Go.Proofs.YthejnffhfmdpnaaDoorW.PrintMore
theorem does_same (k:Nat) (hk:7000≤k): ∀(l:List S43) (fl:Int) (tr:List ByteArray),tr.length+l.length≤100→doesP k l (fl,tr)
 | [],_,_,_=>trivial
 |c::cs,fl,tr,h=>by
  rw [List.length_cons] at h
  have hd:=doP_len fl tr c.f0 c.f1 (fewP c.f2)
  have hf:=fewP_len c.f2
  refine ⟨(c.f0,c.f1,fewP c.f2),doP fl tr c.f0 c.f1 (fewP c.f2),refFew k _ _ _ (by omega),codeDo k fl tr _ _ _ (by show (fewP c.f2).length≤1000;omega) (by omega) (by omega),refDo k fl tr _ _ _ (by show (fewP c.f2).length≤1000;omega) (by omega) (by omega),?_,hd.2.1,does_same k hk cs _ _ (by omega)⟩
  exact answers_same k _ _ _ _ _ _ (by omega) (by omega)
theorem does_calls_all (A0:Option Addr) (c0:Nat) (l:List S43) (w:World) (hr0:Kd.C k43 w A0 l.length l) (hc0:l.length≤c0):
  Calls Tryd.prog 5 #[.slice A0 l.length c0] w fun e w'=>e= .returned (.bool true)∧Below w.heap.size w w':=
 does_calls 7000 A0 c0 l w hr0 hc0 (does_same 7000 (Nat.le_refl _) _ 0 [] (by rw [List.length_take,List.length_nil];omega)) awake
end Go.Proofs.YthejnffhfmdpnaaDoor.Spec

end

section
namespace Go.Proofs.YthejnffhfmdpnaaDoor.Q
open Go.RowKit Go.Proofs.YthejnffhfmdpnaaDoorW.PrintWords Go.Proofs.YthejnffhfmdpnaaDoorW.PrintLast Go.Proofs.YthejnffhfmdpnaaDoorW.PrintMore
open Go.ChangeShapes Go.WideShapes
set_option linter.unusedVariables false
section
variable {H:Type} {enc:TypeId × Value→H} {w:World} {base:Nat} {spare:Nat→Bool} {held:Bool}
theorem trod_row {α:Type} (d:Kd α) {t e:TypeId} (ht:Tryd.prog.underlying t=some (.slice e)) (hsz:Tryd.prog.cellsOf e=d.sz) (hel: ∀fuel cs x,DataW.trod enc Tryd.prog w base spare held fuel e cs=some x→ ∃y:α,d.K w y cs) {fuel:Nat} {cs:List Value} {x:DataW H × List MemPlace} (h:DataW.trod enc Tryd.prog w base spare held fuel t cs=some x):
  ∃(A:Option Addr) (l:List α) (c:Nat),cs= [.slice A l.length c]∧l.length≤c∧Kd.C d w A l.length l:=by
 rcases DataW.trod_slice ht h with ⟨hcs,_⟩|⟨a,len,cap,elems,rest,n,_,hcs,_,hb,hl,hm,hlen,he,_,_⟩
 ·exact ⟨none,[],0,hcs,Nat.le_refl _,rfl,(show 0≤9223372036854775807 by decide),fun h=>absurd h (Nat.lt_irrefl 0)⟩
 ·have H: ∀j:Fin len, ∃y:α, ∃c:List Value,c.length=d.sz∧d.K w y c∧ ∀i u,c[i]? =some u→w.cell? (a.add (j*d.sz+i))=some u:=fun j=>by
   have h1:=he j j.2
   rw [List.getElem?_eq_getElem (by omega),hsz,Option.bind_eq_some_iff] at h1
   obtain ⟨c,hc,hy⟩:=h1
   obtain ⟨y,hK⟩:=hel _ _ _ hy
   obtain ⟨_,hl3,hcell⟩:=World.cells?_some hc
   refine ⟨y,c,hl3,hK,fun i u hu=>?_⟩
   have hi:i < d.sz:=by
    have:=(List.getElem?_eq_some_iff.1 hu).1
    omega
   have:=hcell i hi
   rw [Go.Deep.add_add] at this
   rw [this,hu]
  refine ⟨some a,List.ofFn (fun j=>Classical.choose (H j)),cap,by rw [hcs,List.length_ofFn],by rw [List.length_ofFn];exact hl,by simp,by rw [List.length_ofFn];simp only [maxLen] at hm;omega,fun _=>⟨a,rfl,fun j p hj=>?_⟩⟩
  have hj2:j < len:=by
   have:=(List.getElem?_eq_some_iff.1 hj).1
   rwa [List.length_ofFn] at this
  rw [List.getElem?_eq_getElem (by rw [List.length_ofFn];exact hj2),List.getElem_ofFn] at hj
  obtain rfl:=Option.some.inj hj
  exact Classical.choose_spec (H ⟨j,hj2⟩)
theorem c3_:Tryd.prog.cellsOf 3=1:=by kernel_rfl
theorem c9_:Tryd.prog.cellsOf 9=1:=by kernel_rfl
theorem c37_:Tryd.prog.cellsOf 37=1:=by kernel_rfl
theorem c43_:Tryd.prog.cellsOf 43=3:=by kernel_rfl
theorem c66_:Tryd.prog.cellsOf 66=3:=by kernel_rfl
theorem trod_66 {fuel:Nat} {cs:List Value} {x:DataW H × List MemPlace} (h:DataW.trod enc Tryd.prog w base spare held fuel 66 cs=some x): ∃y:S66,k66.K w y cs:=by
 obtain ⟨y0,y1,y2,m,_,hz,h0,h1,h2⟩:=Go.Deep.trod_struct3 Tryd.underlying66 h
 simp only [c3_,c9_] at h0 h1 h2
 obtain ⟨a,e0,_,_⟩:=DataW.trod_string Tryd.underlying9 h0
 obtain ⟨b,e1,_,_⟩:=DataW.trod_int Tryd.underlying3 h1
 obtain ⟨c,e2,_,_⟩:=DataW.trod_string Tryd.underlying9 h2
 rw [c66_] at hz
 match cs,hz with
 | [c0,c1,c2],_=>
  have f0:c0= .string a:=by simpa using e0
  have f1:c1= .int .i64 b:=by simpa using e1
  have f2:c2= .string c:=by simpa using e2
  subst f0 f1 f2
  exact ⟨⟨a,b,c⟩,k66_mk w ⟨a,b,c⟩⟩
theorem trod_43 {fuel:Nat} {cs:List Value} {x:DataW H × List MemPlace} (h:DataW.trod enc Tryd.prog w base spare held fuel 43 cs=some x): ∃y:S43,k43.K w y cs:=by
 obtain ⟨y0,y1,y2,m,_,hz,h0,h1,h2⟩:=Go.Deep.trod_struct3 Tryd.underlying43 h
 simp only [c3_,c37_] at h0 h1 h2
 obtain ⟨a,e0,_,_⟩:=DataW.trod_int Tryd.underlying3 h0
 obtain ⟨b,e1,_,_⟩:=DataW.trod_int Tryd.underlying3 h1
 obtain ⟨A,l,c,e2,hl,hC⟩:=trod_row k66 Tryd.underlying37 c66_ (fun _ _ _=>trod_66) h2
 rw [c43_] at hz
 match cs,hz with
 | [d0,d1,d2],_=>
  have f0:d0= .int .i64 a:=by simpa using e0
  have f1:d1= .int .i64 b:=by simpa using e1
  have f2:d2= .slice A l.length c:=by simpa using e2
  subst f0 f1 f2
  exact ⟨⟨a,b,l⟩,k43_mk w ⟨a,b,l⟩ hl hC⟩
theorem open_calls {len cap:Nat} {a:Option Addr} {d:DataW H} {ps:List MemPlace} (h:DataW.Trod enc Tryd.prog w base spare held 46 (.slice a len cap) d ps): ∃l:List S43,l.length=len∧len≤cap∧Kd.C k43 w a l.length l:=by
 obtain ⟨fuel,hf⟩:=h
 obtain ⟨A,l,c,e,hl,hC⟩:=trod_row k43 Tryd.underlying46 c43_ (fun _ _ _=>trod_43) hf
 simp [Value.cells] at e
 obtain ⟨rfl,rfl,rfl⟩:=e
 exact ⟨l,rfl,hl,hC⟩
end
end Go.Proofs.YthejnffhfmdpnaaDoor.Q

end

section
namespace Go.Proofs.YthejnffhfmdpnaaDoor.speechDoes
open Go.ChangeShapes Go.WideShapes Go.ChangeAt Go.RowKit Go.Lib
set_option linter.unusedVariables false
theorem own:ownKnob Tryd.prog.godebug=none:=by kernel_rfl
theorem laidOut:laidOutB Tryd.prog=true:=by kernel_rfl
abbrev gSpec:OpenSpec:=OpenSpec.ofChange Rows.speechDoesSpec
def litV:DataW Unit→Value
 | .lit (.int k n)=> .int k n
 |_=> .bool false
def rowV:DataW Unit→List (DataW Unit)
 | .agg xs=>xs
 |_=>[]
noncomputable def laidWorld (os:Os):World:=
 let w0:=World.holding Tryd.prog os ⟨#[],#[],[]⟩
 let put (h:Array Obj) (g:Nat) (cs:Array Value):Array Obj:=h.modify g fun
  | .cells _ t frozen=> .cells cs t frozen
  |o=>o
 let h1:=put w0.heap 1 ((rowV Rows.laid_unicode_utf8_first).map litV).toArray
 let h2:=put h1 2 ((rowV Rows.laid_unicode_utf8_acceptRanges).flatMap fun x=>(rowV x).map litV).toArray
 {w0 with heap:=h2}
theorem laid_met (os:Os) (args:Array Value):laidMet Tryd.prog Rows.speechDoesRow.laid ((laidWorld os).forCall (fun _ _=>0) ⟨#[],args,[]⟩).memory:=
 (LaidIn.of_run (l:=Rows.speechDoesRow.laid) [2,1] 8 (by kernel_rfl) (by kernel_rfl) (by kernel_rfl) (by kernel_rfl)).met
theorem witness_row (os:Os) {H:Type} (enc:TypeId × Value→H):
  gSpec.preRow enc Tryd.prog Tryd.f5 Rows.speechDoesRow.domain false Rows.speechDoesRow.laid ((laidWorld os).forCall (fun _ _=>0) ⟨#[],#[.slice none 0 0],[]⟩).memory #[.slice none 0 0]:=by
 have hw:(DataW.whole enc Tryd.prog ((laidWorld os).forCall (fun _ _=>0) ⟨#[],#[.slice none 0 0],[]⟩).memory Tryd.f5.params.toList gSpec.vars false #[Value.slice none 0 0].toList 8).map (fun x=>(x.1,x.2.1))=
   some ([.nil],[]):=by kernel_rfl
 obtain ⟨⟨x1,x2,x3⟩,hx,hx1⟩:=Option.map_eq_some_iff.1 hw
 simp only [Prod.mk.injEq] at hx1
 obtain ⟨rfl,rfl⟩:=hx1
 exact OpenSpec.preRow_of_cond 8 hx (by kernel_rfl) (fun k hk=>by cases hk) (by kernel_rfl) (laid_met os _)
set_option maxRecDepth 100000 in
set_option maxHeartbeats 2000000 in
theorem lifted (os:Os) (started:os.Started) (H:Type) (enc:TypeId × Value→H) (F:Stop.Interp):
  ReturnsInHanded {} Tryd.checked os 5 .any (gSpec.preRow enc Tryd.prog Tryd.f5 Rows.speechDoesRow.domain false Rows.speechDoesRow.laid) ((gSpec.at F).post enc Tryd.prog Tryd.f5 false true false false):=by
 refine returnsInHanded_of_row (C:=Tryd.checked) (s:=gSpec) own started (by kernel_rfl) Tryd.func5
  (witness_row_atRef (enc:=enc) (C:=Tryd.checked) false (laidWorld os) #[.slice none 0 0] rfl (by kernel_rfl) (by kernel_rfl) (by kernel_rfl) (witness_row os enc)) ?_
 intro W base args ds gs before hval0 hW _ _ _ hL _ _
 have hval: ∀(j:Nat) t v,Tryd.f5.params[j]? =some t→args[j]? =some v→Value.okWide Tryd.prog W .any base t v:=hval0
 have hW':=hW
 obtain ⟨p,q,hA0,hV0,rfl,_,_⟩:=hW
 have hA:DataW.TrodAll enc Tryd.prog W 0 (fun _=>true) true Tryd.f5.params.toList args.toList ds p:=hA0
 rw [Tryd.params5] at hA hval
 obtain ⟨v0,d0,rfl,rfl,h0⟩:=trodAll_one hA
 obtain ⟨rfl,rfl⟩:=trodVars_none hV0
 obtain ⟨a0,len0,cap0,rfl⟩:=okWide_slice Tryd.underlying46 (hval 0 46 v0 rfl rfl)
 have k0:=h0
 have lt0: ∀x ∈ p,x.block < W.heap.size:=by obtain ⟨m,hm⟩:=k0;exact DataW.trod_lt m _ _ _ hm
 obtain ⟨l,rfl,hl,hC⟩:=Q.open_calls h0
 clear hA0 hV0 hval0
 refine (Spec.does_calls_all a0 cap0 l W hC hl).mono ?_
 rintro e W' ⟨rfl,bel⟩
 have e1:(gSpec.at F).fn H ([d0]++[])={results:=[.lit (.bool true)],args:=[d0]}:=rfl
 exact ⟨_,rfl,_,_,_,[],_,[],hW',trodAll_mk1 (shut_bool Tryd.underlying4 _),trodAll_mk1 (Below.trod laidOut (by kernel_rfl) (of_decide_eq_true (by kernel_rfl)) k0 bel lt0),rfl,bel.frame _,fun h=>by cases h⟩
theorem holds:Rows.SpeechDoesSaid:=
 OpenClaim.holds_of_cond 5 Tryd.f5 rfl rfl rfl rfl rfl rfl rfl ⟨rfl,rfl,rfl,rfl,rfl⟩ rfl rfl rfl rfl rfl (by kernel_rfl) Tryd.func5 (by kernel_rfl)
  (of_decide_eq_true (by kernel_rfl)) (by unfold Func.isWrapper;rw [if_neg (of_decide_eq_false (by kernel_rfl))];exact ⟨rfl,rfl⟩)
  (fun os started H enc _ F0=>by rw [OpenClaim.pre_eq_preRow];exact lifted os started H enc F0)
theorem card_holds:Rows.SpeechDoesCardSaid:=
 Claim7.holds_tied_plain_at .later [] [.data, .pinned] true (true, "7420a93d4a17575aa1b5cac436dbd42f330b9b924339a14b30b70292c9a041d8") false
  holds (fun _ h=>by cases h) (by kernel_rfl) (fun _ h=>by cases h) speechDoes_row_tie rfl ⟨rfl,rfl⟩ (by kernel_rfl) rfl
  (fun f fn hf hfn=>by
   obtain rfl:f=5:=Option.some.inj ((show Tryd.prog.funcNamed "barque/barquelaw22.SpeechDoes" =some 5 by kernel_rfl).symm.trans hf) |>.symm
   obtain rfl:fn=Tryd.f5:=(Option.some.inj (Tryd.func5.symm.trans hfn)).symm
   exact ⟨by kernel_rfl,fun j t ht=>by
    rw [Tryd.params5] at ht
    have h3:t=46:=by
     rcases j with _|j
     ·simpa using ht.symm
     ·simp at ht
    subst h3
    exact (show Tryd.prog.wantsStandIn 46=false by kernel_rfl)⟩)
  (by kernel_rfl)
end Go.Proofs.YthejnffhfmdpnaaDoor.speechDoes
namespace Go.Proofs.YthejnffhfmdpnaaDoor
theorem speechDoes_card:Rows.SpeechDoesCardSaid:=speechDoes.card_holds
end Go.Proofs.YthejnffhfmdpnaaDoor

end
