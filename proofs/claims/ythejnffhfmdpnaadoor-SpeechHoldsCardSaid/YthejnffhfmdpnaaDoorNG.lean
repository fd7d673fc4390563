/- Texts of this claim, in one file. -/
import Derived.Deep.LoopGhost
import Derived.Lib.SliceRun
import Derived.Outline
import Derived.Test.YthejnffhfmdpnaaDoorNF
section
namespace Go.Proofs.YthejnffhfmdpnaaDoor.Spec
set_option linter.unusedVariables false
open Go.RowKit Go.Proofs.YthejnffhfmdpnaaDoor.Q Go.Proofs.YthejnffhfmdpnaaDoorW.PrintWords Go.Proofs.YthejnffhfmdpnaaDoorW.PrintLast Go.Proofs.YthejnffhfmdpnaaDoorW.PrintMore
abbrev DoV:=Int × List ByteArray × Int × Int × Int × List S66 × List ByteArray
theorem codeRestore (k:Nat) (fl:Int) (tr:List ByteArray) (g:Int) (hk:4001≤k):speech_restore.f k fl tr g=some (restoreP fl tr g):=rfl
theorem refHas (k:Nat) (fl:Int) (tr:List ByteArray) (g:Int) (hk:5001≤k):barquelaw22_has.f k fl tr g=some (restoreP fl tr g):=rfl
def doP (fl:Int) (tr:List ByteArray) (kind gen:Int) (files:List S66):DoV:=
 if kind=1 then (if (ofP files).2=0 then (if 32≤wrap64 ((tr.length:Int) - fl) then (fl,tr,7,0,0,[],[]) else (fl,tr++[(ofP files).1],0,(tr.length:Int),fl,[],[])) else (fl,tr,(ofP files).2,0,0,[],[]))
 else if kind=2 then (fl,tr,restoreP fl tr (wrap64 ((tr.length:Int) - 1)))
 else if kind=3 then (if gen < 0 then (fl,tr,2,0,0,[],[]) else (fl,tr,restoreP fl tr gen))
 else if kind=4 then (fl,tr,0,(tr.length:Int),fl,[],[])
 else if kind=6 then (fl,tr,0,(tr.length:Int),fl,[],[])
 else if kind=5 then (if gen < 0 then (fl,tr,2,0,0,[],[]) else if gen≤fl then (fl,tr,0,(tr.length:Int),fl,[],[]) else if (tr.length:Int)≤gen then (fl,tr,2,0,0,[],[]) else (gen,tr,0,(tr.length:Int),gen,[],[]))
 else (fl,tr,1,0,0,[],[])
theorem codeDo (k:Nat) (fl:Int) (tr:List ByteArray) (kind gen:Int) (files:List S66) (hf:files.length≤1000) (ht:tr.length < 1000000) (hk:6000≤k):speech_Do.f k fl tr kind gen files=some (doP fl tr kind gen files):=by
 unfold speech_Do.f doP
 rw [codeOf k files (by omega) (by omega),codeRestore k fl tr _ (by omega),codeRestore k fl tr _ (by omega)]
 simp only [Option.bind_some]
 rw [if_pos (show tr.length < 8796093022207 by omega)]
 repeat' split
 all_goals rfl
theorem refDo (k:Nat) (fl:Int) (tr:List ByteArray) (kind gen:Int) (files:List S66) (hf:files.length≤1000) (ht:tr.length < 1000000) (hk:6000≤k):barquelaw22_do.f k fl tr kind gen files=some (doP fl tr kind gen files):=by
 unfold barquelaw22_do.f doP
 rw [refOf k files (by omega) (by omega),refHas k fl tr _ (by omega),refHas k fl tr _ (by omega)]
 simp only [Option.bind_some]
 rw [if_pos (show tr.length < 8796093022207 by omega)]
 repeat' split
 all_goals rfl
theorem gatherP_len (s:ByteArray): ∀(h:List (S66 × Int)) (p:Nat),(gatherP s h p).1.length≤h.length
 | [],p=>by unfold gatherP;split<;>simp
 |x::t,p=>by
  have:=gatherP_len s t (p+x.2.toNat)
  unfold gatherP
  split
  ·simp
  ·split
   ·rw [List.length_cons,List.length_cons];omega
   ·simp
theorem treeP_len (s:ByteArray):(treeP s).1.length≤256:=by
 unfold treeP
 split
 ·simp
 ·split
  ·exact Nat.le_trans (gatherP_len _ _ _) (toldP_len s)
  ·simp
theorem restoreP_len (fl:Int) (tr:List ByteArray) (g:Int):(restoreP fl tr g).2.2.2.1.length≤256∧(restoreP fl tr g).2.2.2.2= []:=by
 unfold restoreP
 split
 ·simp
 ·split
  ·simp
  ·exact ⟨treeP_len _,rfl⟩
theorem doP_len (fl:Int) (tr:List ByteArray) (kind gen:Int) (files:List S66):(doP fl tr kind gen files).2.2.2.2.2.1.length≤256∧(doP fl tr kind gen files).2.2.2.2.2.2= []∧(doP fl tr kind gen files).2.1.length≤tr.length+1:=by
 unfold doP
 have h1:=restoreP_len fl tr (wrap64 ((tr.length:Int) - 1))
 have h2:=restoreP_len fl tr gen
 repeat' split
 all_goals first|exact ⟨h1.1,h1.2,Nat.le_succ _⟩|exact ⟨h2.1,h2.2,Nat.le_succ _⟩|simp
end Go.Proofs.YthejnffhfmdpnaaDoor.Spec

end

section
namespace Go.Proofs.YthejnffhfmdpnaaDoor.Q
open Go.RowKit Go.Proofs.YthejnffhfmdpnaaDoorW.PrintWords Go.Proofs.YthejnffhfmdpnaaDoorW.PrintLast Go.Proofs.YthejnffhfmdpnaaDoorW.PrintMore
set_option linter.unusedVariables false
set_option linter.unusedSimpArgs false
theorem eqA66 (d:Nat) (w:World) (x0 y0:ByteArray) (x1 y1:Int) (x2 y2:ByteArray):
  (Op.equalIn (d+2) 66 (.agg #[.string x0, .int .i64 x1, .string x2]) (.agg #[.string y0, .int .i64 y1, .string y2])).run Tryd.prog w= .ok (x0.toList == y0.toList && (x1 == y1 && (x2.toList == y2.toList))) w:=by
 refine eqA_of Tryd.underlying66 (by kernel_rfl) ?_
 refine eqf_cons (by rfl) (by go_simp;rfl) (by go_simp;rfl) (by go_simp) ?_
 refine eqf_cons (by rfl) (by go_simp;rfl) (by go_simp;rfl) (by go_simp) ?_
 exact eqf_last (by rfl) (by go_simp;rfl) (by go_simp;rfl) (by go_simp)
attribute [local go_sem high] eqA66
theorem s66_ext {x y:S66} (h0:x.f0=y.f0) (h1:x.f1=y.f1) (h2:x.f2=y.f2):x=y:=by cases x;cases y;simp only at h0 h1 h2;rw [h0,h1,h2]
instance:DecidableEq S66:=fun x y=>decidable_of_iff (x.f0=y.f0∧x.f1=y.f1∧x.f2=y.f2) ⟨fun h=>s66_ext h.1 h.2.1 h.2.2,fun h=>by rw [h];exact ⟨rfl,rfl,rfl⟩⟩
def eqB (x y:S66):Bool:=x.f0.toList == y.f0.toList && (x.f1 == y.f1 && (x.f2.toList == y.f2.toList))
theorem toList_inj {a b:ByteArray} (h:a.toList=b.toList):a=b:=by
 rw [ByteArray.toList_eq,ByteArray.toList_eq] at h
 cases a;cases b
 congr 1
 exact Array.toList_inj.mp h
theorem eqB_eq (x y:S66):eqB x y=decide (x=y):=by
 by_cases h:x=y
 ·rw [decide_eq_true h,h];unfold eqB;simp
 ·rw [decide_eq_false h, ← Bool.not_eq_true]
  intro hb
  unfold eqB at hb
  simp only [Bool.and_eq_true,beq_iff_eq] at hb
  obtain ⟨h1,h2,h3⟩:=hb
  apply h
  cases x;cases y
  simp only at h1 h2 h3
  rw [toList_inj h1,h2,toList_inj h3]
theorem files_eq {l m:List S66} (hl:l.length=m.length) (h: ∀j,j < l.length→eqB (rd_T66 l (j:Int)) (rd_T66 m (j:Int))=true):l=m:=by
 refine List.ext_getElem hl (fun j h1 h2=>?_)
 have:=h j h1
 rw [eqB_eq] at this
 have:=of_decide_eq_true this
 rwa [rd_T66,rd_T66,Int.toNat_natCast,List.getD_eq_getElem?_getD,List.getD_eq_getElem?_getD,List.getElem?_eq_getElem h1,List.getElem?_eq_getElem h2] at this
theorem files_ne {l m:List S66} {j:Nat} (h:eqB (rd_T66 l (j:Int)) (rd_T66 m (j:Int))=false):l≠m:=by
 rintro rfl
 rw [eqB_eq,decide_eq_true rfl] at h
 exact absurd h (by decide)
def sameB (e g f:Int) (l:List S66) (e' g' f':Int) (l':List S66):Bool:=e == e' && (g == g' && (f == f' && decide (l=l')))
set_option maxHeartbeats 8000000 in
set_option maxRecDepth 100000 in
theorem files35_calls (A0:Option Addr) (c0:Nat) (l:List S66) (A1:Option Addr) (c1:Nat) (m:List S66) (w:World) (hr0:Kd.C k66 w A0 l.length l) (hr1:Kd.C k66 w A1 m.length m):
  Calls Tryd.prog 35 #[.slice A0 l.length c0, .slice A1 m.length c1] w fun e w'=>e= .returned (.bool (decide (l=m)))∧Below w.heap.size w w':=by
 have hu66:=Tryd.underlying66
 have HR0:=Aside0.mk hr0
 have HR1:=Aside0.mk hr1
 have hlm:=hr0.2.1
 have hlm1:=hr1.2.1
 clear hr0 hr1
 have HW:=Aside0.mk (Below.refl w.heap.size w)
 by_cases hl:l.length=m.length
 case neg=>
  have b1:((l.length:Int) != (m.length:Int))=true:=bne_iff_ne.mpr (by omega)
  have b2:(l.length != m.length)=true:=bne_iff_ne.mpr hl
  have b3:((l.length:Int) == (m.length:Int))=false:=beq_eq_false_iff_ne.mpr (by omega)
  have b4:(l.length == m.length)=false:=beq_eq_false_iff_ne.mpr hl
  have HO:=Aside0.mk (show decide (l=m)=false from decide_eq_false (fun e=>hl (by rw [e])))
  clear hl
  go_enter Tryd.func35,Tryd.ntmps35
  go_wp2
  go_ret
  exact ⟨by rw [HO.out];rfl,HW.out⟩
 have HL:=Aside0.mk hl
 have b1:((l.length:Int) != (m.length:Int))=false:=bne_eq_false_iff_eq.mpr (by omega)
 have b2:(l.length != m.length)=false:=bne_eq_false_iff_eq.mpr hl
 have b3:((l.length:Int) == (m.length:Int))=true:=beq_iff_eq.mpr (by omega)
 have b4:(l.length == m.length)=true:=beq_iff_eq.mpr hl
 clear hl
 go_enter Tryd.func35,Tryd.ntmps35
 go_wp2
 go_loopg [5] (l.length+1) (fun gq v wr=> ∃i:Nat,v= .int .i64 i∧Aside0 (i≤l.length∧gq+i=l.length+1)∧Aside0 (∀j,j < i→eqB (rd_T66 l (j:Int)) (rd_T66 m (j:Int))=true)∧Aside0 (Below w.heap.size w wr))
 case atStart=>exact ⟨0,rfl,⟨by omega⟩,⟨fun j hj=>absurd hj (Nat.not_lt_zero _)⟩,HW⟩
 case round=>
  clear HW b1 b2 b3 b4
  obtain ⟨i,rfl,HG,HA,HW⟩:=hrel
  by_cases hlt:i < l.length
  ·have ltb:decide ((i:Int) < (l.length:Int))=true:=decide_eq_true (by omega)
   have ltc:decide (i < l.length)=true:=decide_eq_true hlt
   have he:=HL.out
   obtain ⟨ad0,ead0,x0,x1,x2⟩:=at_T66 (Kd.C_below HR0.out HW.out) (i:Int) (by omega) (by omega)
   cases ead0
   obtain ⟨ad1,ead1,y0,y1,y2⟩:=at_T66 (Kd.C_below HR1.out HW.out) (i:Int) (by omega) (by omega)
   cases ead1
   rw [Int.toNat_natCast] at x0 x1 x2 y0 y1 y2
   have p200:=eq_true (show (0:Int)≤(i:Int) by omega)
   have q200:=eq_true (show (i:Int) < (l.length:Int) by omega)
   have q201:=eq_true (show (i:Int) < (m.length:Int) by omega)
   clear he
   obtain ⟨x,hx⟩: ∃x,x=rd_T66 l (i:Int):=⟨_,rfl⟩
   obtain ⟨y,hy⟩: ∃y,y=rd_T66 m (i:Int):=⟨_,rfl⟩
   rw [← hx] at x0 x1 x2
   rw [← hy] at y0 y1 y2
   have HQ:=Aside0.mk (show eqB (rd_T66 l (i:Int)) (rd_T66 m (i:Int))=(x.f0.toList == y.f0.toList && (x.f1 == y.f1 && (x.f2.toList == y.f2.toList))) by rw [hx,hy];rfl)
   clear hx hy
   cases h1:x.f0.toList == y.f0.toList<;>cases h2:x.f1 == y.f1<;>cases h3:x.f2.toList == y.f2.toList<;>
    have HE:=HQ.out<;>rw [h1,h2,h3] at HE<;>replace HE:=Aside0.mk HE
   all_goals
    go_wp2_with fail
    go_quiet (fail)
    go_wp2_with fail
   all_goals first
    |have HO:=Aside0.mk (show decide (l=m)=false from decide_eq_false (files_ne HE.out))
     go_ret
     exact ⟨by rw [HO.out];rfl,pw_below_drewN HW.out _⟩
    |go_roundg (l.length - i)
     case measure=>have:=HG.out.2;omega
     case rel=>exact ⟨i+1,by go_num,⟨by have:=HG.out;omega⟩,⟨fun j hj=>by
      by_cases hq:j=i
      ·subst hq;exact HE.out
      ·exact HA.out j (by omega)⟩,⟨pw_below_drewN HW.out _⟩⟩
  ·have ltb:decide ((i:Int) < (l.length:Int))=false:=decide_eq_false (by omega)
   have ltc:decide (i < l.length)=false:=decide_eq_false hlt
   have HO:=Aside0.mk (show decide (l=m)=true from decide_eq_true (files_eq HL.out (fun j hj=>HA.out j (by omega))))
   go_wp2
   go_ret
   exact ⟨by rw [HO.out];rfl,HW.out⟩
set_option maxHeartbeats 8000000 in
set_option maxRecDepth 100000 in
theorem files56_calls (A0:Option Addr) (c0:Nat) (l:List S66) (A1:Option Addr) (c1:Nat) (m:List S66) (w:World) (hr0:Kd.C k66 w A0 l.length l) (hr1:Kd.C k66 w A1 m.length m):
  Calls Tryd.prog 56 #[.slice A0 l.length c0, .slice A1 m.length c1] w fun e w'=>e= .returned (.bool (decide (l=m)))∧Below w.heap.size w w':=by
 have hu66:=Tryd.underlying66
 have HR0:=Aside0.mk hr0
 have HR1:=Aside0.mk hr1
 have hlm:=hr0.2.1
 have hlm1:=hr1.2.1
 clear hr0 hr1
 have HW:=Aside0.mk (Below.refl w.heap.size w)
 by_cases hl:l.length=m.length
 case neg=>
  have b1:((l.length:Int) != (m.length:Int))=true:=bne_iff_ne.mpr (by omega)
  have b2:(l.length != m.length)=true:=bne_iff_ne.mpr hl
  have b3:((l.length:Int) == (m.length:Int))=false:=beq_eq_false_iff_ne.mpr (by omega)
  have b4:(l.length == m.length)=false:=beq_eq_false_iff_ne.mpr hl
  have HO:=Aside0.mk (show decide (l=m)=false from decide_eq_false (fun e=>hl (by rw [e])))
  clear hl
  go_enter Tryd.func56,Tryd.ntmps56
  go_wp2
  go_ret
  exact ⟨by rw [HO.out];rfl,HW.out⟩
 have HL:=Aside0.mk hl
 have b1:((l.length:Int) != (m.length:Int))=false:=bne_eq_false_iff_eq.mpr (by omega)
 have b2:(l.length != m.length)=false:=bne_eq_false_iff_eq.mpr hl
 have b3:((l.length:Int) == (m.length:Int))=true:=beq_iff_eq.mpr (by omega)
 have b4:(l.length == m.length)=true:=beq_iff_eq.mpr hl
 clear hl
 go_enter Tryd.func56,Tryd.ntmps56
 go_wp2
 go_loopg [13] (l.length+1) (fun gq v wr=> ∃i:Nat,v= .int .i64 i∧Aside0 (i≤l.length∧gq+i=l.length+1)∧Aside0 (∀j,j < i→eqB (rd_T66 l (j:Int)) (rd_T66 m (j:Int))=true)∧Aside0 (Below w.heap.size w wr))
 case atStart=>exact ⟨0,rfl,⟨by omega⟩,⟨fun j hj=>absurd hj (Nat.not_lt_zero _)⟩,HW⟩
 case round=>
  clear HW b1 b2 b3 b4
  obtain ⟨i,rfl,HG,HA,HW⟩:=hrel
  by_cases hlt:i < l.length
  ·have ltb:decide ((i:Int) < (l.length:Int))=true:=decide_eq_true (by omega)
   have ltc:decide (i < l.length)=true:=decide_eq_true hlt
   have he:=HL.out
   obtain ⟨ad0,ead0,x0,x1,x2⟩:=at_T66 (Kd.C_below HR0.out HW.out) (i:Int) (by omega) (by omega)
   cases ead0
   obtain ⟨ad1,ead1,y0,y1,y2⟩:=at_T66 (Kd.C_below HR1.out HW.out) (i:Int) (by omega) (by omega)
   cases ead1
   rw [Int.toNat_natCast] at x0 x1 x2 y0 y1 y2
   have p200:=eq_true (show (0:Int)≤(i:Int) by omega)
   have q200:=eq_true (show (i:Int) < (l.length:Int) by omega)
   have q201:=eq_true (show (i:Int) < (m.length:Int) by omega)
   clear he
   obtain ⟨x,hx⟩: ∃x,x=rd_T66 l (i:Int):=⟨_,rfl⟩
   obtain ⟨y,hy⟩: ∃y,y=rd_T66 m (i:Int):=⟨_,rfl⟩
   rw [← hx] at x0 x1 x2
   rw [← hy] at y0 y1 y2
   have HQ:=Aside0.mk (show eqB (rd_T66 l (i:Int)) (rd_T66 m (i:Int))=(x.f0.toList == y.f0.toList && (x.f1 == y.f1 && (x.f2.toList == y.f2.toList))) by rw [hx,hy];rfl)
   clear hx hy
   cases h1:x.f0.toList == y.f0.toList<;>cases h2:x.f1 == y.f1<;>cases h3:x.f2.toList == y.f2.toList<;>
    have HE:=HQ.out<;>rw [h1,h2,h3] at HE<;>replace HE:=Aside0.mk HE
   all_goals
    go_wp2_with fail
    go_quiet (fail)
    go_wp2_with fail
   all_goals first
    |have HO:=Aside0.mk (show decide (l=m)=false from decide_eq_false (files_ne HE.out))
     go_ret
     exact ⟨by rw [HO.out];rfl,pw_below_drewN HW.out _⟩
    |go_roundg (l.length - i)
     case measure=>have:=HG.out.2;omega
     case rel=>exact ⟨i+1,by go_num,⟨by have:=HG.out;omega⟩,⟨fun j hj=>by
      by_cases hq:j=i
      ·subst hq;exact HE.out
      ·exact HA.out j (by omega)⟩,⟨pw_below_drewN HW.out _⟩⟩
  ·have ltb:decide ((i:Int) < (l.length:Int))=false:=decide_eq_false (by omega)
   have ltc:decide (i < l.length)=false:=decide_eq_false hlt
   have HO:=Aside0.mk (show decide (l=m)=true from decide_eq_true (files_eq HL.out (fun j hj=>HA.out j (by omega))))
   go_wp2
   go_ret
   exact ⟨by rw [HO.out];rfl,HW.out⟩
set_option maxHeartbeats 8000000 in
set_option maxRecDepth 100000 in
theorem same19_calls (e g f:Int) (A0:Option Addr) (c0:Nat) (l:List S66) (v:Value) (e' g' f':Int) (A1:Option Addr) (c1:Nat) (m:List S66) (v':Value) (w:World) (hr0:Kd.C k66 w A0 l.length l) (hr1:Kd.C k66 w A1 m.length m):
  Calls Tryd.prog 19 #[.agg #[.int .i64 e, .int .i64 g, .int .i64 f, .slice A0 l.length c0,v], .agg #[.int .i64 e', .int .i64 g', .int .i64 f', .slice A1 m.length c1,v']] w fun z w'=>z= .returned (.bool (sameB e g f l e' g' f' m))∧Below w.heap.size w w':=by
 have HW:=Aside0.mk (below_alloc (below_alloc (Below.refl w.heap.size w) (.cells #[.int .i64 e, .int .i64 g, .int .i64 f, .slice A0 l.length c0,v] 39)) (.cells #[.int .i64 e', .int .i64 g', .int .i64 f', .slice A1 m.length c1,v'] 39))
 have HC:=Aside0.mk (files35_calls A0 c0 l A1 c1 m _ (Kd.C_below hr0 HW.out) (Kd.C_below hr1 HW.out))
 clear hr0 hr1
 have HS:=Aside0.mk (show sameB e g f l e' g' f' m=(e == e' && (g == g' && (f == f' && decide (l=m)))) from rfl)
 cases h1:e == e'<;>cases h2:g == g'<;>cases h3:f == f'<;>rw [h1,h2,h3] at HS<;>go_enter Tryd.func19,Tryd.ntmps19<;>
 ·have HB:=HW
  go_wp2_with (first|(go_at_call 35;(with_reducible refine HC.out.mono ?_);rintro z w1 ⟨rfl,hb⟩;replace HB:=Aside0.mk (below_step HW.out hb);clear hb))
  go_ret
  exact ⟨by rw [HS.out];simp,HB.out⟩
set_option maxHeartbeats 8000000 in
set_option maxRecDepth 100000 in
theorem same40_calls (e g f:Int) (A0:Option Addr) (c0:Nat) (l:List S66) (v:Value) (e' g' f':Int) (A1:Option Addr) (c1:Nat) (m:List S66) (v':Value) (w:World) (hr0:Kd.C k66 w A0 l.length l) (hr1:Kd.C k66 w A1 m.length m):
  Calls Tryd.prog 40 #[.agg #[.int .i64 e, .int .i64 g, .int .i64 f, .slice A0 l.length c0,v], .agg #[.int .i64 e', .int .i64 g', .int .i64 f', .slice A1 m.length c1,v']] w fun z w'=>z= .returned (.bool (sameB e g f l e' g' f' m))∧Below w.heap.size w w':=by
 have HW:=Aside0.mk (below_alloc (below_alloc (Below.refl w.heap.size w) (.cells #[.int .i64 e, .int .i64 g, .int .i64 f, .slice A0 l.length c0,v] 39)) (.cells #[.int .i64 e', .int .i64 g', .int .i64 f', .slice A1 m.length c1,v'] 39))
 have HC:=Aside0.mk (files56_calls A0 c0 l A1 c1 m _ (Kd.C_below hr0 HW.out) (Kd.C_below hr1 HW.out))
 clear hr0 hr1
 have HS:=Aside0.mk (show sameB e g f l e' g' f' m=(e == e' && (g == g' && (f == f' && decide (l=m)))) from rfl)
 cases h1:e == e'<;>cases h2:g == g'<;>cases h3:f == f'<;>rw [h1,h2,h3] at HS<;>go_enter Tryd.func40,Tryd.ntmps40<;>
 ·have HB:=HW
  go_wp2_with (first|(go_at_call 56;(with_reducible refine HC.out.mono ?_);rintro z w1 ⟨rfl,hb⟩;replace HB:=Aside0.mk (below_step HW.out hb);clear hb))
  go_ret
  exact ⟨by rw [HS.out];simp,HB.out⟩
end Go.Proofs.YthejnffhfmdpnaaDoor.Q

end

section
namespace Go.Proofs.YthejnffhfmdpnaaDoor.Q
open Go.RowKit Go.Proofs.YthejnffhfmdpnaaDoor.Spec Go.Proofs.YthejnffhfmdpnaaDoorW.PrintWords Go.Proofs.YthejnffhfmdpnaaDoorW.PrintLast Go.Proofs.YthejnffhfmdpnaaDoorW.PrintMore
set_option linter.unusedVariables false
theorem do18_calls (fl:Int) (A0:Option Addr) (c0:Nat) (tr:List ByteArray) (kd gn:Int) (A1:Option Addr) (c1:Nat) (l:List S66) (w:World) (hr0:Kd.C Kd.string w A0 tr.length tr) (hc0:tr.length≤c0) (hr1:Kd.C k66 w A1 l.length l) (hc1:l.length≤c1) (hl:l.length≤1000) (ht:tr.length < 1000000):
  Calls Tryd.prog 18 #[.agg #[.int .i64 fl, .slice A0 tr.length c0], .agg #[.int .i64 kd, .int .i64 gn, .slice A1 l.length c1]] w (DoPost w A0 c0 tr (doP fl tr kd gn l)):=
 speech_Do.calls 6000 fl A0 c0 tr kd gn A1 c1 l w hr0 hc0 hr1 hc1 _ (codeDo 6000 fl tr kd gn l hl ht (Nat.le_refl _))
theorem do16_calls (fl:Int) (A0:Option Addr) (c0:Nat) (tr:List ByteArray) (kd gn:Int) (A1:Option Addr) (c1:Nat) (l:List S66) (w:World) (hr0:Kd.C Kd.string w A0 tr.length tr) (hc0:tr.length≤c0) (hr1:Kd.C k66 w A1 l.length l) (hc1:l.length≤c1) (hl:l.length≤1000) (ht:tr.length < 1000000):
  Calls Tryd.prog 16 #[.agg #[.int .i64 fl, .slice A0 tr.length c0], .agg #[.int .i64 kd, .int .i64 gn, .slice A1 l.length c1]] w (DoPost w A0 c0 tr (doP fl tr kd gn l)):=
 barquelaw22_do.calls 6000 fl A0 c0 tr kd gn A1 c1 l w hr0 hc0 hr1 hc1 _ (refDo 6000 fl tr kd gn l hl ht (Nat.le_refl _))
end Go.Proofs.YthejnffhfmdpnaaDoor.Q

end

section
namespace Go.Proofs.YthejnffhfmdpnaaDoor.Q
open Go.RowKit Go.Proofs.YthejnffhfmdpnaaDoorW.PrintWords Go.Proofs.YthejnffhfmdpnaaDoorW.PrintLast Go.Proofs.YthejnffhfmdpnaaDoorW.PrintMore
attribute [local go_sem] min2_int min_two
set_option linter.unusedVariables false
set_option linter.unusedSimpArgs false
def speech_Open.f (a0:Int):Option (Bool):=if a0=17 then (some true) else (if a0=16 then (some true) else (some (a0 == 7)))
set_option maxHeartbeats 8000000 in
set_option maxRecDepth 100000 in
theorem speech_Open.calls (a0:Int) (r:Bool) (w:World) (h:speech_Open.f a0=some r):
  Calls Tryd.prog 55 #[.int .i64 a0] w fun e w'=>e= .returned (.bool r)∧Drawn0 w w':=by
 have H:(if a0=17 then (some true) else (if a0=16 then (some true) else (some (a0 == 7))))=some r:=h
 clear h
 by_cases c2:a0=17
 ·rw [if_pos c2] at H
  have c2b0:(a0 == 17)=true:=beq_iff_eq.mpr c2
  have c2b1:(a0 != 17)=false:=bne_eq_false_iff_eq.mpr c2
  clear c2
  obtain rfl:=Option.some.inj H
  go_enter Tryd.func55,Tryd.ntmps55
  go_wp2
  go_ret
  exact ⟨by first|rfl|(simp;done)|(simp [*];done),by repeat (first|exact Drawn0.refl _|apply Drawn0.step)⟩
 ·rw [if_neg c2] at H
  have c2b0:(a0 == 17)=false:=beq_eq_false_iff_ne.mpr c2
  have c2b1:(a0 != 17)=true:=bne_iff_ne.mpr c2
  by_cases c3:a0=16
  ·rw [if_pos c3] at H
   have c3b0:(a0 == 16)=true:=beq_iff_eq.mpr c3
   have c3b1:(a0 != 16)=false:=bne_eq_false_iff_eq.mpr c3
   clear c3
   obtain rfl:=Option.some.inj H
   go_enter Tryd.func55,Tryd.ntmps55
   go_wp2
   go_ret
   exact ⟨by first|rfl|(simp;done)|(simp [*];done),by repeat (first|exact Drawn0.refl _|apply Drawn0.step)⟩
  ·rw [if_neg c3] at H
   have c3b0:(a0 == 16)=false:=beq_eq_false_iff_ne.mpr c3
   have c3b1:(a0 != 16)=true:=bne_iff_ne.mpr c3
   obtain rfl:=Option.some.inj H
   go_enter Tryd.func55,Tryd.ntmps55
   go_wp2
   go_ret
   exact ⟨by first|rfl|(simp;done)|(simp [*];done),by repeat (first|exact Drawn0.refl _|apply Drawn0.step)⟩
end Go.Proofs.YthejnffhfmdpnaaDoor.Q

end

section
namespace Go.Proofs.YthejnffhfmdpnaaDoor.Q
open Go.RowKit Go.Proofs.YthejnffhfmdpnaaDoorW.PrintWords Go.Proofs.YthejnffhfmdpnaaDoorW.PrintLast Go.Proofs.YthejnffhfmdpnaaDoorW.PrintMore
set_option linter.unusedVariables false
set_option linter.unusedSimpArgs false
def Fst (g:Nat) (A0:Option Addr) (c0:Nat) (l:List S45) (A1:Option Addr) (c1:Nat) (dn:List Bool) (left:Int) (v3:Value) (W:World):Prop:=
 W.heap[g]? =some (.cells #[.slice A0 l.length c0, .slice A1 dn.length c1, .int .i64 left,v3] 76 (0,0))∧Kd.C k45 W A0 l.length l∧l.length≤c0∧Kd.C Kd.bool W A1 dn.length dn∧dn.length≤c1
theorem Fst.below {g:Nat} {A0:Option Addr} {c0:Nat} {l:List S45} {A1:Option Addr} {c1:Nat} {dn:List Bool} {left:Int} {v3:Value} {W W1:World} (h:Fst g A0 c0 l A1 c1 dn left v3 W) (hb:Below W.heap.size W W1):Fst g A0 c0 l A1 c1 dn left v3 W1:=
 ⟨blk_below h.1 hb,Kd.C_below h.2.1 hb,h.2.2.1,Kd.C_below h.2.2.2.1 hb,h.2.2.2.2⟩
theorem Fst.cells {g:Nat} {A0:Option Addr} {c0:Nat} {l:List S45} {A1:Option Addr} {c1:Nat} {dn:List Bool} {left:Int} {v3:Value} {W:World} (h:Fst g A0 c0 l A1 c1 dn left v3 W):
  W.cell? ⟨g,0,none⟩=some (.slice A0 l.length c0)∧W.cell? ⟨g,1,none⟩=some (.slice A1 dn.length c1)∧W.cell? ⟨g,2,none⟩=some (.int .i64 left)∧W.cell? ⟨g,3,none⟩=some v3:=
 ⟨(blk_cell h.1 0).trans rfl,(blk_cell h.1 1).trans rfl,(blk_cell h.1 2).trans rfl,(blk_cell h.1 3).trans rfl⟩
def openB (e:Int):Bool:=e == 17 || (e == 16 || e == 7)
def idleB (x:S45):Bool:=x.f1 == 0 || openB x.f3.f0
theorem open_f (e:Int):speech_Open.f e=some (openB e):=by
 unfold speech_Open.f openB
 by_cases h1:e=17
 ·simp [h1]
 ·rw [if_neg h1,beq_eq_false_iff_ne.mpr h1,Bool.false_or]
  by_cases h2:e=16
  ·simp [h2]
  ·rw [if_neg h2,beq_eq_false_iff_ne.mpr h2,Bool.false_or]
set_option maxHeartbeats 8000000 in
set_option maxRecDepth 100000 in
theorem idle_calls (g:Nat) (A0:Option Addr) (c0:Nat) (l:List S45) (A1:Option Addr) (c1:Nat) (dn:List Bool) (left:Int) (v3:Value) (w:World) (hF:Fst g A0 c0 l A1 c1 dn left v3 w) (i:Nat) (hi:i < l.length):
  Calls Tryd.prog 39 #[.pointer (some ⟨g,0,none⟩), .int .i64 i] w fun e w'=>e= .returned (.bool (idleB (rd_T45 l i)))∧Below w.heap.size w w':=by
 obtain ⟨z0,z1,z2,z3⟩:=hF.cells
 obtain ⟨ad,A4,c4,A8,c8,A9,c9,ead,y0,y1,y2,y3,y4,y5,y6,y7,y8,y9, -⟩:=at_T45 hF.2.1 (i:Int) (by omega) (by omega)
 cases ead
 rw [Int.toNat_natCast] at y0 y1 y2 y3 y4 y5 y6 y7 y8 y9
 have hlm:=hF.2.1.2.1
 have p200:=eq_true (show (0:Int)≤(i:Int) by omega)
 have q200:=eq_true (show (i:Int) < (l.length:Int) by omega)
 clear hF
 generalize rd_T45 l (i:Int)=x at y0 y1 y2 y3 y4 y5 y6 y7 y8 y9 ⊢
 unfold idleB
 by_cases h0:x.f1=0
 ·have h0b:(x.f1 == 0)=true:=beq_iff_eq.mpr h0
  rw [h0b]
  clear h0
  go_enter Tryd.func39,Tryd.ntmps39
  go_wp2
  go_ret
  exact ⟨rfl,by repeat (first|exact Below.refl _ _|apply below_alloc)⟩
 ·have h0b:(x.f1 == 0)=false:=beq_eq_false_iff_ne.mpr h0
  rw [h0b,Bool.false_or]
  clear h0
  go_enter Tryd.func39,Tryd.ntmps39
  go_wp2_with (first|(go_at_call 55;(with_reducible refine (speech_Open.calls x.f3.f0 (openB x.f3.f0) _ (open_f _)).mono ?_);rintro e w1 ⟨rfl,hd⟩;obtain ⟨n,rfl⟩:=hd))
  go_ret
  exact ⟨rfl,by repeat (first|exact Below.refl _ _|apply below_alloc|apply pw_below_drewN)⟩
def doneB (l:List S45) (dn:List Bool) (i:Nat):Bool:=rdOf false dn (i:Int) || idleB (rd_T45 l (i:Int))
def overB (l:List S45) (dn:List Bool):Bool:=(List.range l.length).all (doneB l dn)
theorem overB_no {l:List S45} {dn:List Bool} {i:Nat} (hi:i < l.length) (h:doneB l dn i=false):overB l dn=false:=by
 unfold overB
 rw [← Bool.not_eq_true,List.all_eq_true]
 intro hall
 have:=hall i (List.mem_range.mpr hi)
 rw [h] at this
 exact absurd this (by decide)
theorem overB_yes {l:List S45} {dn:List Bool} (h: ∀i,i < l.length→doneB l dn i=true):overB l dn=true:=by
 unfold overB
 rw [List.all_eq_true]
 exact fun i hi=>h i (List.mem_range.mp hi)
set_option maxHeartbeats 8000000 in
set_option maxRecDepth 100000 in
theorem over_calls (g:Nat) (A0:Option Addr) (c0:Nat) (l:List S45) (A1:Option Addr) (c1:Nat) (dn:List Bool) (left:Int) (v3:Value) (w:World) (hF:Fst g A0 c0 l A1 c1 dn left v3 w) (hd:dn.length=l.length):
  Calls Tryd.prog 41 #[.pointer (some ⟨g,0,none⟩)] w fun e w'=>e= .returned (.bool (overB l dn))∧Below w.heap.size w w':=by
 have HF:=Aside0.mk hF
 have HD:=Aside0.mk hd
 have hlm:=hF.2.1.2.1
 obtain ⟨z0,z1,z2,z3⟩:=hF.cells
 clear hF hd
 go_enter Tryd.func41,Tryd.ntmps41
 go_wp2
 clear z0 z1 z2 z3
 go_loopg [9] (l.length+1) (fun gq v9 wr=> ∃i:Nat,v9= .int .i64 i∧Aside0 (i≤l.length∧gq+i=l.length+1)∧Aside0 (∀j,j < i→doneB l dn j=true)∧Aside0 (Fst g A0 c0 l A1 c1 dn left v3 wr∧Below w.heap.size w wr))
 case atStart=>exact ⟨0,rfl,⟨by omega⟩,⟨fun j hj=>absurd hj (Nat.not_lt_zero _)⟩,⟨HF.out,Below.refl _ _⟩⟩
 case round=>
  clear HF
  obtain ⟨i,rfl,HG,HA,HS⟩:=hrel
  by_cases hlt:i < l.length
  ·have ltb:decide ((i:Int) < (l.length:Int))=true:=decide_eq_true (by omega)
   have ltc:decide (i < l.length)=true:=decide_eq_true hlt
   obtain ⟨z0,z1,z2,z3⟩:=HS.out.1.cells
   have hdm:=HD.out
   obtain ⟨ad,ead,y0⟩:=Kd.at_bool HS.out.1.2.2.2.1 (i:Int) (by omega) (by omega)
   cases ead
   rw [Int.toNat_natCast] at y0
   have p200:=eq_true (show (0:Int)≤(i:Int) by omega)
   have q200:=eq_true (show (i:Int) < (dn.length:Int) by omega)
   clear hdm
   by_cases h1:rdOf false dn (i:Int)=true
   ·rw [h1] at y0
    have HDi:=Aside0.mk (show doneB l dn i=true by unfold doneB;rw [h1];rfl)
    clear h1
    go_wp2
    go_roundg (l.length - i)
    case measure=>have:=HG.out.2;omega
    case rel=>exact ⟨i+1,by go_num,⟨by have:=HG.out;omega⟩,⟨fun j hj=>by
     by_cases hq:j=i
     ·subst hq;exact HDi.out
     ·exact HA.out j (by omega)⟩,HS⟩
   ·have h1:rdOf false dn (i:Int)=false:=by simpa using h1
    rw [h1] at y0
    have HDi:=Aside0.mk (show doneB l dn i=idleB (rd_T45 l (i:Int)) by unfold doneB;rw [h1];rfl)
    clear h1
    have HID:=Aside0.mk (idle_calls g A0 c0 l _ c1 dn left v3 wr HS.out.1 i hlt)
    by_cases h2:idleB (rd_T45 l (i:Int))=true
    ·rw [h2] at HID HDi
     clear h2
     go_wp2_with (first|(go_at_call 39;(with_reducible refine HID.out.mono ?_);rintro e w1 ⟨rfl,hb⟩))
     have HS1:=Aside0.mk (And.intro (HS.out.1.below hb) (below_step HS.out.2 hb))
     clear hb HS
     go_roundg (l.length - i)
     case measure=>have:=HG.out.2;omega
     case rel=>exact ⟨i+1,by go_num,⟨by have:=HG.out;omega⟩,⟨fun j hj=>by
      by_cases hq:j=i
      ·subst hq;exact HDi.out
      ·exact HA.out j (by omega)⟩,HS1⟩
    ·have h2:idleB (rd_T45 l (i:Int))=false:=by simpa using h2
     rw [h2] at HID HDi
     clear h2
     have HO:=Aside0.mk (overB_no hlt HDi.out)
     go_wp2_with (first|(go_at_call 39;(with_reducible refine HID.out.mono ?_);rintro e w1 ⟨rfl,hb⟩))
     go_ret
     exact ⟨by rw [HO.out];rfl,below_step HS.out.2 hb⟩
  ·have ltb:decide ((i:Int) < (l.length:Int))=false:=decide_eq_false (by omega)
   have ltc:decide (i < l.length)=false:=decide_eq_false hlt
   have HO:=Aside0.mk (overB_yes (l:=l) (dn:=dn) (fun j hj=>HA.out j (by omega)))
   go_wp2
   go_ret
   exact ⟨by rw [HO.out];rfl,HS.out.2⟩
end Go.Proofs.YthejnffhfmdpnaaDoor.Q

end

section
namespace Go.Proofs.YthejnffhfmdpnaaDoor.Q
open Go.RowKit Go.Proofs.YthejnffhfmdpnaaDoorW.PrintWords Go.Proofs.YthejnffhfmdpnaaDoorW.PrintLast Go.Proofs.YthejnffhfmdpnaaDoorW.PrintMore
set_option linter.unusedVariables false
set_option linter.unusedSimpArgs false
set_option maxHeartbeats 8000000 in
set_option maxRecDepth 100000 in
theorem openl_calls (x:S45) (v4 v8 v9:Value) (w:World):
  Calls Tryd.prog 23 #[.agg #[.int .i64 x.f0, .int .i64 x.f1, .int .i64 x.f2.f0, .int .i64 x.f2.f1,v4, .int .i64 x.f3.f0, .int .i64 x.f3.f1, .int .i64 x.f3.f2,v8,v9]] w fun e w'=>e= .returned (.bool (idleB x))∧Below w.heap.size w w':=by
 have e:idleB x=(x.f1 == 0 || (x.f3.f0 == 7 || (x.f3.f0 == 16 || x.f3.f0 == 17))):=by
  unfold idleB openB
  cases x.f1 == 0<;>cases x.f3.f0 == 7<;>cases x.f3.f0 == 16<;>cases x.f3.f0 == 17<;>rfl
 rw [e]
 have hB:=below_alloc (Below.refl w.heap.size w) (.cells #[.int .i64 x.f0, .int .i64 x.f1, .int .i64 x.f2.f0, .int .i64 x.f2.f1,v4, .int .i64 x.f3.f0, .int .i64 x.f3.f1, .int .i64 x.f3.f2,v8,v9] 45)
 have HB:=Aside0.mk hB
 clear hB e
 cases h1:x.f1 == 0<;>cases h2:x.f3.f0 == 7<;>cases h3:x.f3.f0 == 16<;>
 ·go_enter Tryd.func23,Tryd.ntmps23
  go_wp2_with fail
  go_ret
  exact ⟨by simp,HB.out⟩
set_option maxHeartbeats 8000000 in
set_option maxRecDepth 100000 in
theorem overl_calls (A0:Option Addr) (c0:Nat) (l:List S45) (A1:Option Addr) (c1:Nat) (dn:List Bool) (w:World) (hr0:Kd.C k45 w A0 l.length l) (hr1:Kd.C Kd.bool w A1 l.length dn) (hd:dn.length=l.length):
  Calls Tryd.prog 29 #[.slice A0 l.length c0, .slice A1 l.length c1] w fun e w'=>e= .returned (.bool (overB l dn))∧Below w.heap.size w w':=by
 have HR0:=Aside0.mk hr0
 have HR1:=Aside0.mk (And.intro hr1 hd)
 have hlm:=hr0.2.1
 have HW:=Aside0.mk (Below.refl w.heap.size w)
 clear hr0 hr1 hd
 go_enter Tryd.func29,Tryd.ntmps29
 go_wp2
 go_loopg [5] (l.length+1) (fun gq v5 wr=> ∃i:Nat,v5= .int .i64 i∧Aside0 (i≤l.length∧gq+i=l.length+1)∧Aside0 (∀j,j < i→doneB l dn j=true)∧Aside0 (Below w.heap.size w wr))
 case atStart=>exact ⟨0,rfl,⟨by omega⟩,⟨fun j hj=>absurd hj (Nat.not_lt_zero _)⟩,HW⟩
 case round=>
  clear HW
  obtain ⟨i,rfl,HG,HA,HW⟩:=hrel
  have hle:=HG.out.1
  by_cases hlt:i < l.length
  ·have ltb:decide ((i:Int) < (l.length:Int))=true:=decide_eq_true (by omega)
   have ltc:decide (i < l.length)=true:=decide_eq_true hlt
   obtain ⟨ad,ead,y0⟩:=Kd.at_bool (Kd.C_below HR1.out.1 HW.out) (i:Int) (by omega) (by omega)
   cases ead
   obtain ⟨ad0,A4,c4,A8,c8,A9,c9,ead0,x0,x1,x2,x3,x4,x5,x6,x7,x8,x9, -⟩:=at_T45 (Kd.C_below HR0.out HW.out) (i:Int) (by omega) (by omega)
   cases ead0
   rw [Int.toNat_natCast] at y0 x0 x1 x2 x3 x4 x5 x6 x7 x8 x9
   have p200:=eq_true (show (0:Int)≤(i:Int) by omega)
   have q200:=eq_true (show (i:Int) < (l.length:Int) by omega)
   obtain ⟨x,hx⟩: ∃x,x=rd_T45 l (i:Int):=⟨_,rfl⟩
   have HD:=Aside0.mk (show doneB l dn i=(rdOf false dn (i:Int) || idleB x) by rw [hx];rfl)
   rw [← hx] at x0 x1 x2 x3 x4 x5 x6 x7 x8 x9
   clear hx hle
   have HNo:=Aside0.mk (openl_calls x (.slice A4 x.f2.f2.length c4) (.slice A8 x.f3.f3.length c8) (.slice A9 x.f3.f4.length c9) wr)
   cases h1:rdOf false dn (i:Int)<;>cases h2:idleB x<;>rw [h1] at y0<;>rw [h1,h2] at HD<;>rw [h2] at HNo
   case false.false=>
    have HO:=Aside0.mk (overB_no hlt HD.out)
    go_wp2_with (first|(go_at_call 23;(with_reducible refine HNo.out.mono ?_);rintro e w1 ⟨rfl,hb⟩;have HW1:=Aside0.mk (below_step HW.out hb);clear hb))
    go_ret
    exact ⟨by rw [HO.out];rfl,HW1.out⟩
   all_goals
    have HW1:=HW
    go_wp2_with (first|(go_at_call 23;(with_reducible refine HNo.out.mono ?_);rintro e w1 ⟨rfl,hb⟩;replace HW1:=Aside0.mk (below_step HW1.out hb);clear hb))
    go_roundg (l.length - i)
    case measure=>have:=HG.out.2;omega
    case rel=>exact ⟨i+1,by go_num,⟨by have:=HG.out;omega⟩,⟨fun j hj=>by
     by_cases hq:j=i
     ·subst hq;exact HD.out
     ·exact HA.out j (by omega)⟩,HW1⟩
  ·have ltb:decide ((i:Int) < (l.length:Int))=false:=decide_eq_false (by omega)
   have ltc:decide (i < l.length)=false:=decide_eq_false hlt
   have HO:=Aside0.mk (overB_yes (l:=l) (dn:=dn) (fun j hj=>HA.out j (by omega)))
   go_wp2
   go_ret
   exact ⟨by rw [HO.out];rfl,HW.out⟩
def okB (x:S45):Bool:= !(decide (x.f0 < 1) || (decide (x.f1 < 0) || (decide (0 < x.f1) && decide (x.f1 < x.f0))))
def rightB (l:List S45):Bool:=decide (l.length≤256) && (List.range l.length).all (fun i=>okB (rd_T45 l (i:Int)))
theorem rightB_no {l:List S45} {i:Nat} (hi:i < l.length) (h:okB (rd_T45 l (i:Int))=false):rightB l=false:=by
 unfold rightB
 rw [Bool.and_eq_false_iff]
 refine .inr ?_
 rw [← Bool.not_eq_true,List.all_eq_true]
 intro hall
 have:=hall i (List.mem_range.mpr hi)
 rw [h] at this
 exact absurd this (by decide)
theorem rightB_yes {l:List S45} (h: ∀i,i < l.length→okB (rd_T45 l (i:Int))=true):rightB l=decide (l.length≤256):=by
 unfold rightB
 rw [show (List.range l.length).all (fun i=>okB (rd_T45 l (i:Int)))=true from List.all_eq_true.mpr (fun i hi=>h i (List.mem_range.mp hi)),Bool.and_true]
set_option maxHeartbeats 8000000 in
set_option maxRecDepth 100000 in
theorem rightl_calls (A0:Option Addr) (c0:Nat) (l:List S45) (w:World) (hr0:Kd.C k45 w A0 l.length l):
  Calls Tryd.prog 21 #[.slice A0 l.length c0] w fun e w'=>e= .returned (.bool (rightB l))∧Below w.heap.size w w':=by
 have HR0:=Aside0.mk hr0
 have hlm:=hr0.2.1
 have HW:=Aside0.mk (Below.refl w.heap.size w)
 clear hr0
 go_enter Tryd.func21,Tryd.ntmps21
 go_wp2
 go_loopg [3] (l.length+1) (fun gq v3 wr=> ∃i:Nat,v3= .int .i64 i∧Aside0 (i≤l.length∧gq+i=l.length+1)∧Aside0 (∀j,j < i→okB (rd_T45 l (j:Int))=true)∧Aside0 (Below w.heap.size w wr))
 case atStart=>exact ⟨0,rfl,⟨by omega⟩,⟨fun j hj=>absurd hj (Nat.not_lt_zero _)⟩,HW⟩
 case round=>
  clear HW
  obtain ⟨i,rfl,HG,HA,HW⟩:=hrel
  have hle:=HG.out.1
  by_cases hlt:i < l.length
  ·have ltb:decide ((i:Int) < (l.length:Int))=true:=decide_eq_true (by omega)
   have ltc:decide (i < l.length)=true:=decide_eq_true hlt
   obtain ⟨ad0,A4,c4,A8,c8,A9,c9,ead0,x0,x1, -⟩:=at_T45 (Kd.C_below HR0.out HW.out) (i:Int) (by omega) (by omega)
   cases ead0
   rw [Int.toNat_natCast] at x0 x1
   have p200:=eq_true (show (0:Int)≤(i:Int) by omega)
   have q200:=eq_true (show (i:Int) < (l.length:Int) by omega)
   obtain ⟨x,hx⟩: ∃x,x=rd_T45 l (i:Int):=⟨_,rfl⟩
   have HK:=Aside0.mk (show okB (rd_T45 l (i:Int))=(!(decide (x.f0 < 1) || (decide (x.f1 < 0) || (decide (0 < x.f1) && decide (x.f1 < x.f0))))) by rw [hx];rfl)
   rw [← hx] at x0 x1
   clear hx hle
   cases h1:decide (x.f0 < 1)<;>cases h2:decide (x.f1 < 0)<;>cases h3:decide (0 < x.f1)<;>cases h4:decide (x.f1 < x.f0)<;>rw [h1,h2,h3,h4] at HK
   case false.false.false.false|false.false.false.true|false.false.true.false=>
    go_wp2_with fail
    go_region
    go_wp2_with fail
    go_roundg (l.length - i)
    case measure=>have:=HG.out.2;omega
    case rel=>exact ⟨i+1,by go_num,⟨by have:=HG.out;omega⟩,⟨fun j hj=>by
     by_cases hq:j=i
     ·subst hq;exact HK.out
     ·exact HA.out j (by omega)⟩,⟨below_drew HW.out⟩⟩
   all_goals
    have HO:=Aside0.mk (rightB_no hlt HK.out)
    go_wp2_with fail
    go_region
    go_wp2_with fail
    go_ret
    exact ⟨by rw [HO.out];rfl,below_drew HW.out⟩
  ·have ltb:decide ((i:Int) < (l.length:Int))=false:=decide_eq_false (by omega)
   have ltc:decide (i < l.length)=false:=decide_eq_false hlt
   have HO:=Aside0.mk (rightB_yes (l:=l) (fun j hj=>HA.out j (by omega)))
   go_wp2
   go_ret
   exact ⟨by rw [HO.out];exact congrArg (fun b=>Ending.returned (.bool b)) (show decide ((l.length:Int)≤256)=decide (l.length≤256) from decide_eq_decide.mpr (by omega)),HW.out⟩
set_option maxHeartbeats 8000000 in
set_option maxRecDepth 100000 in
theorem rightc_calls (A0:Option Addr) (c0:Nat) (l:List S45) (w:World) (hr0:Kd.C k45 w A0 l.length l):
  Calls Tryd.prog 27 #[.slice A0 l.length c0] w fun e w'=>e= .returned (.bool (rightB l))∧Below w.heap.size w w':=by
 have HR0:=Aside0.mk hr0
 have hlm:=hr0.2.1
 have HW:=Aside0.mk (Below.refl w.heap.size w)
 clear hr0
 by_cases h256:l.length≤256
 case neg=>
  have n1:decide ((256:Int) < (l.length:Int))=true:=decide_eq_true (by omega)
  have n2:decide (256 < l.length)=true:=decide_eq_true (by omega)
  have HO:=Aside0.mk (show rightB l=false by unfold rightB;rw [decide_eq_false h256];rfl)
  go_enter Tryd.func27,Tryd.ntmps27
  go_wp2
  go_ret
  exact ⟨by rw [HO.out];rfl,HW.out⟩
 have n1:decide ((256:Int) < (l.length:Int))=false:=decide_eq_false (by omega)
 have n2:decide (256 < l.length)=false:=decide_eq_false (by omega)
 go_enter Tryd.func27,Tryd.ntmps27
 go_wp2
 go_loopg [10] (l.length+1) (fun gq v10 wr=> ∃i:Nat,v10= .int .i64 i∧Aside0 (i≤l.length∧gq+i=l.length+1)∧Aside0 (∀j,j < i→okB (rd_T45 l (j:Int))=true)∧Aside0 (Below w.heap.size w wr))
 case atStart=>exact ⟨0,rfl,⟨by omega⟩,⟨fun j hj=>absurd hj (Nat.not_lt_zero _)⟩,HW⟩
 case round=>
  clear HW
  obtain ⟨i,rfl,HG,HA,HW⟩:=hrel
  have hle:=HG.out.1
  by_cases hlt:i < l.length
  ·have ltb:decide ((i:Int) < (l.length:Int))=true:=decide_eq_true (by omega)
   have ltc:decide (i < l.length)=true:=decide_eq_true hlt
   obtain ⟨ad0,A4,c4,A8,c8,A9,c9,ead0,x0,x1,x2,x3,x4,x5,x6,x7,x8,x9, -⟩:=at_T45 (Kd.C_below HR0.out HW.out) (i:Int) (by omega) (by omega)
   cases ead0
   rw [Int.toNat_natCast] at x0 x1 x2 x3 x4 x5 x6 x7 x8 x9
   have p200:=eq_true (show (0:Int)≤(i:Int) by omega)
   have q200:=eq_true (show (i:Int) < (l.length:Int) by omega)
   obtain ⟨x,hx⟩: ∃x,x=rd_T45 l (i:Int):=⟨_,rfl⟩
   have HK:=Aside0.mk (show okB (rd_T45 l (i:Int))=(!(decide (x.f0 < 1) || (decide (x.f1 < 0) || (decide (0 < x.f1) && decide (x.f1 < x.f0))))) by rw [hx];rfl)
   rw [← hx] at x0 x1 x2 x3 x4 x5 x6 x7 x8 x9
   clear hx hle
   have HW1:=Aside0.mk (below_alloc HW.out (.cells #[.int .i64 x.f0, .int .i64 x.f1, .int .i64 x.f2.f0, .int .i64 x.f2.f1, .slice A4 x.f2.f2.length c4, .int .i64 x.f3.f0, .int .i64 x.f3.f1, .int .i64 x.f3.f2, .slice A8 x.f3.f3.length c8, .slice A9 x.f3.f4.length c9] 45))
   cases h1:decide (x.f0 < 1)<;>cases h2:decide (x.f1 < 0)<;>cases h3:decide (0 < x.f1)<;>cases h4:decide (x.f1 < x.f0)<;>rw [h1,h2,h3,h4] at HK
   all_goals first
    |have HO:=Aside0.mk (rightB_no hlt HK.out)
     go_wp2_with fail
     go_ret
     exact ⟨by rw [HO.out];rfl,HW1.out⟩
    |go_wp2_with fail
     go_roundg (l.length - i)
     case measure=>have:=HG.out.2;omega
     case rel=>exact ⟨i+1,by go_num,⟨by have:=HG.out;omega⟩,⟨fun j hj=>by
      by_cases hq:j=i
      ·subst hq;exact HK.out
      ·exact HA.out j (by omega)⟩,HW1⟩
  ·have ltb:decide ((i:Int) < (l.length:Int))=false:=decide_eq_false (by omega)
   have ltc:decide (i < l.length)=false:=decide_eq_false hlt
   have HO:=Aside0.mk (show rightB l=true from (rightB_yes (l:=l) (fun j hj=>HA.out j (by omega))).trans (decide_eq_true h256))
   go_wp2
   go_ret
   exact ⟨by rw [HO.out];rfl,HW.out⟩
end Go.Proofs.YthejnffhfmdpnaaDoor.Q

end

section
namespace Go.Proofs.YthejnffhfmdpnaaDoor.Q
open Go.RowKit Go.Proofs.YthejnffhfmdpnaaDoorW.PrintWords Go.Proofs.YthejnffhfmdpnaaDoorW.PrintLast Go.Proofs.YthejnffhfmdpnaaDoorW.PrintMore
set_option linter.unusedVariables false
set_option linter.unusedSimpArgs false
def waysB (l:List S45) (dn:List Bool) (i k:Nat):Bool:=rdOf false dn (k:Int) || ((k:Int) == (i:Int) || (idleB (rd_T45 l (k:Int)) || !decide ((rd_T45 l (k:Int)).f1 < (rd_T45 l (i:Int)).f0)))
def freeB (l:List S45) (dn:List Bool) (i:Nat):Bool:=(List.range l.length).all (waysB l dn i)
theorem freeB_no {l:List S45} {dn:List Bool} {i k:Nat} (hk:k < l.length) (h:waysB l dn i k=false):freeB l dn i=false:=by
 unfold freeB
 rw [← Bool.not_eq_true,List.all_eq_true]
 intro hall
 have:=hall k (List.mem_range.mpr hk)
 rw [h] at this
 exact absurd this (by decide)
theorem freeB_yes {l:List S45} {dn:List Bool} {i:Nat} (h: ∀k,k < l.length→waysB l dn i k=true):freeB l dn i=true:=by
 unfold freeB
 rw [List.all_eq_true]
 exact fun k hk=>h k (List.mem_range.mp hk)
set_option maxHeartbeats 8000000 in
set_option maxRecDepth 100000 in
theorem free_calls (g:Nat) (A0:Option Addr) (c0:Nat) (l:List S45) (A1:Option Addr) (c1:Nat) (dn:List Bool) (left:Int) (v3:Value) (w:World) (hF:Fst g A0 c0 l A1 c1 dn left v3 w) (hd:dn.length=l.length) (i:Nat) (hi:i < l.length):
  Calls Tryd.prog 38 #[.pointer (some ⟨g,0,none⟩), .int .i64 i] w fun e w'=>e= .returned (.bool (freeB l dn i))∧Below w.heap.size w w':=by
 have HF0:=Aside0.mk hF
 have HD:=Aside0.mk hd
 have HI:=Aside0.mk hi
 have hlm:=hF.2.1.2.1
 obtain ⟨z0,z1,z2,z3⟩:=hF.cells
 clear hF hd hi
 go_enter Tryd.func38,Tryd.ntmps38
 go_wp2
 clear z0 z1 z2 z3
 go_loopg [12] (l.length+1) (fun gq v12 wr=> ∃k:Nat,v12= .int .i64 k∧Aside0 (k≤l.length∧gq+k=l.length+1)∧Aside0 (∀j,j < k→waysB l dn i j=true)∧Aside0 (Fst g A0 c0 l A1 c1 dn left v3 wr∧Below w.heap.size w wr))
 case atStart=>exact ⟨0,rfl,⟨by omega⟩,⟨fun j hj=>absurd hj (Nat.not_lt_zero _)⟩,⟨HF0.out,Below.refl _ _⟩⟩
 case round=>
  clear HF0
  obtain ⟨k,rfl,HG,HA,HS⟩:=hrel
  by_cases hk:k < l.length
  ·have ltb:decide ((k:Int) < (l.length:Int))=true:=decide_eq_true (by omega)
   have ltc:decide (k < l.length)=true:=decide_eq_true hk
   have hdm:=HD.out
   have hii:=HI.out
   obtain ⟨ad1,ead1,y0⟩:=Kd.at_bool HS.out.1.2.2.2.1 (k:Int) (by omega) (by omega)
   cases ead1
   rw [Int.toNat_natCast] at y0
   obtain ⟨ad0,A4,c4,A8,c8,A9,c9,ead0,x0,x1,x2,x3,x4,x5,x6,x7,x8,x9, -⟩:=at_T45 HS.out.1.2.1 (k:Int) (by omega) (by omega)
   cases ead0
   obtain ⟨ad0',A4',c4',A8',c8',A9',c9',ead0,u0, -⟩:=at_T45 HS.out.1.2.1 (i:Int) (by omega) (by omega)
   cases ead0
   rw [Int.toNat_natCast] at x0 x1 x2 x3 x4 x5 x6 x7 x8 x9 u0
   have p200:=eq_true (show (0:Int)≤(k:Int) by omega)
   have q200:=eq_true (show (k:Int) < (l.length:Int) by omega)
   have q201:=eq_true (show (k:Int) < (dn.length:Int) by omega)
   have p202:=eq_true (show (0:Int)≤(i:Int) by omega)
   have q202:=eq_true (show (i:Int) < (l.length:Int) by omega)
   clear hdm hii
   have HWB:=Aside0.mk (show waysB l dn i k=(rdOf false dn (k:Int) || ((k:Int) == (i:Int) || (idleB (rd_T45 l (k:Int)) || !decide ((rd_T45 l (k:Int)).f1 < (rd_T45 l (i:Int)).f0)))) from rfl)
   obtain ⟨x,hx⟩: ∃x,x=rd_T45 l (k:Int):=⟨_,rfl⟩
   obtain ⟨y,hy⟩: ∃y,y=rd_T45 l (i:Int):=⟨_,rfl⟩
   rw [← hx] at x0 x1 x2 x3 x4 x5 x6 x7 x8 x9
   rw [← hy] at u0
   rw [← hx, ← hy] at HWB
   have HX:=Aside0.mk hx.symm
   clear hx hy
   have HF:=Aside0.mk (HS.out.1.below (below_alloc (Below.refl _ _) (.cells #[.int .i64 x.f0, .int .i64 x.f1, .int .i64 x.f2.f0, .int .i64 x.f2.f1, .slice A4 x.f2.f2.length c4, .int .i64 x.f3.f0, .int .i64 x.f3.f1, .int .i64 x.f3.f2, .slice A8 x.f3.f3.length c8, .slice A9 x.f3.f4.length c9] 45)))
   have HB:=Aside0.mk (below_alloc HS.out.2 (.cells #[.int .i64 x.f0, .int .i64 x.f1, .int .i64 x.f2.f0, .int .i64 x.f2.f1, .slice A4 x.f2.f2.length c4, .int .i64 x.f3.f0, .int .i64 x.f3.f1, .int .i64 x.f3.f2, .slice A8 x.f3.f3.length c8, .slice A9 x.f3.f4.length c9] 45))
   have HK:=Aside0.mk (blk_new wr (.cells #[.int .i64 x.f0, .int .i64 x.f1, .int .i64 x.f2.f0, .int .i64 x.f2.f1, .slice A4 x.f2.f2.length c4, .int .i64 x.f3.f0, .int .i64 x.f3.f1, .int .i64 x.f3.f2, .slice A8 x.f3.f3.length c8, .slice A9 x.f3.f4.length c9] 45))
   have s2':=(World.cell?_alloc_lt wr (Obj.cells #[.int .i64 x.f0, .int .i64 x.f1, .int .i64 x.f2.f0, .int .i64 x.f2.f1, .slice A4 x.f2.f2.length c4, .int .i64 x.f3.f0, .int .i64 x.f3.f1, .int .i64 x.f3.f2, .slice A8 x.f3.f3.length c8, .slice A9 x.f3.f4.length c9] 45) _ (World.block_lt_of_cell? wr _ y0)).trans y0
   have s4':=(World.cell?_alloc_lt wr (Obj.cells #[.int .i64 x.f0, .int .i64 x.f1, .int .i64 x.f2.f0, .int .i64 x.f2.f1, .slice A4 x.f2.f2.length c4, .int .i64 x.f3.f0, .int .i64 x.f3.f1, .int .i64 x.f3.f2, .slice A8 x.f3.f3.length c8, .slice A9 x.f3.f4.length c9] 45) _ (World.block_lt_of_cell? wr _ u0)).trans u0
   have HS2:=Aside0.mk s2'
   have HS4:=Aside0.mk s4'
   clear s2' s4' y0 u0
   go_wp2_with fail
   clear x0 x1 x2 x3 x4 x5 x6 x7 x8 x9
   generalize wr.alloc (.cells #[.int .i64 x.f0, .int .i64 x.f1, .int .i64 x.f2.f0, .int .i64 x.f2.f1, .slice A4 x.f2.f2.length c4, .int .i64 x.f3.f0, .int .i64 x.f3.f1, .int .i64 x.f3.f2, .slice A8 x.f3.f3.length c8, .slice A9 x.f3.f4.length c9] 45)=W at HF HB HK HS2 HS4 ⊢
   have s0:=HF.out.cells.1
   have s1:=HF.out.cells.2.1
   have s2:=HS2.out
   have s3:W.cell? ⟨wr.heap.size,1,none⟩=some (.int .i64 x.f1):=(blk_cell HK.out 1).trans rfl
   have s4:=HS4.out
   clear HS2 HS4 HK
   by_cases h1:rdOf false dn (k:Int)=true
   ·rw [h1] at s2 HWB
    clear h1
    go_quiet (fail)
    go_wp2
    go_roundg (l.length - k)
    case measure=>have:=HG.out.2;omega
    case rel=>exact ⟨k+1,by go_num,⟨by have:=HG.out;omega⟩,⟨fun j hj=>by
     by_cases hq:j=k
     ·subst hq;exact HWB.out
     ·exact HA.out j (by omega)⟩,⟨HF.out.below (pw_below_drewN (Below.refl _ _) _),pw_below_drewN HB.out _⟩⟩
   ·have h1:rdOf false dn (k:Int)=false:=by simpa using h1
    rw [h1] at s2 HWB
    clear h1
    by_cases h2:(k:Int)=(i:Int)
    ·have h2b:((k:Int) == (i:Int))=true:=beq_iff_eq.mpr h2
     have h2c:((k:Int) != (i:Int))=false:=bne_eq_false_iff_eq.mpr h2
     rw [h2b] at HWB
     have h2d:(k == i)=true:=beq_iff_eq.mpr (by omega)
     have h2e:(k != i)=false:=bne_eq_false_iff_eq.mpr (by omega)
     clear h2
     go_quiet (fail)
     go_wp2
     go_roundg (l.length - k)
     case measure=>have:=HG.out.2;omega
     case rel=>exact ⟨k+1,by go_num,⟨by have:=HG.out;omega⟩,⟨fun j hj=>by
      by_cases hq:j=k
      ·subst hq;exact HWB.out
      ·exact HA.out j (by omega)⟩,⟨HF.out.below (pw_below_drewN (Below.refl _ _) _),pw_below_drewN HB.out _⟩⟩
    ·have h2b:((k:Int) == (i:Int))=false:=beq_eq_false_iff_ne.mpr h2
     have h2c:((k:Int) != (i:Int))=true:=bne_iff_ne.mpr h2
     rw [h2b] at HWB
     have h2d:(k == i)=false:=beq_eq_false_iff_ne.mpr (by omega)
     have h2e:(k != i)=true:=bne_iff_ne.mpr (by omega)
     clear h2
     have HCl:=Aside0.mk (show ∀w',Below W.heap.size W w'→w'.cell? ⟨g,0,none⟩=some (.slice (some ad0) l.length c0)∧w'.cell? ⟨g,1,none⟩=some (.slice (some ad1) dn.length c1)∧w'.cell? (ad1.add k)=some (.bool false)∧w'.cell? ⟨wr.heap.size,1,none⟩=some (.int .i64 x.f1)∧w'.cell? (ad0.add (i*10))=some (.int .i64 y.f0) from fun w' hS=>by
      have hcl: ∀{q v},W.cell? q=some v→w'.cell? q=some v:=fun {q v} h=>(hS.cell (World.block_lt_of_cell? W _ h)).trans h
      exact ⟨hcl s0,hcl s1,hcl s2,hcl s3,hcl s4⟩)
     clear s0 s1 s2 s3 s4
     refine start_ (n:=32) (S:=fun w'=>Below W.heap.size W w') (ds:=[]) (TG [0,32]) (by kernel_rfl) rfl rfl (below_drew (Below.refl _ _)) (fun hHeld=>?_)
     apply pu 0 (some 17) [1,31] rfl rfl (by kernel_rfl) (fun _ _ _ h=>h) (by rfl)
     ·intro w';go_simp;with_reducible rfl
     ·simp only [Act.put,List.setIfInBounds_toArray,List.set_cons_zero,List.set_cons_succ,i64_w];rfl
     apply pu 1 (some 18) [2,30] rfl rfl (by kernel_rfl) (fun _ _ _ h=>h) (by rfl)
     ·intro w';go_simp;with_reducible rfl
     ·simp only [Act.put,List.setIfInBounds_toArray,List.set_cons_zero,List.set_cons_succ,i64_w];rfl
     apply pu 2 (some 19) [3,29] rfl rfl (by kernel_rfl) (fun _ _ _ h=>h) (by rfl)
     ·intro w';go_simp;with_reducible rfl
     ·simp only [Act.put,List.setIfInBounds_toArray,List.set_cons_zero,List.set_cons_succ,i64_w];rfl
     apply pu 4 (some 21) [3,1,1,27] rfl rfl (by kernel_rfl) (fun _ _ _ h=>h) (by rfl)
     ·intro w';go_simp;with_reducible rfl
     ·simp only [Act.put,List.setIfInBounds_toArray,List.set_cons_zero,List.set_cons_succ,i64_w];rfl
     apply tk 3 (some 20) [5,27] rfl rfl (by kernel_rfl) (fun _ _ _ h=>h) hHeld (by rfl)
     ·intro w' hS;obtain ⟨q0,q1,q2,q3,q4⟩:=HCl.out w' hS;go_simp;with_reducible rfl
     ·simp only [Act.put,List.setIfInBounds_toArray,List.set_cons_zero,List.set_cons_succ,i64_w];rfl
     apply pu 5 (some 22) [6,26] rfl rfl (by kernel_rfl) (fun _ _ _ h=>h) (by rfl)
     ·intro w';go_simp;with_reducible rfl
     ·simp only [Act.put,List.setIfInBounds_toArray,List.set_cons_zero,List.set_cons_succ,i64_w];rfl
     apply tk 6 (some 23) [7,25] rfl rfl (by kernel_rfl) (fun _ _ _ h=>h) hHeld (by rfl)
     ·intro w' hS;obtain ⟨q0,q1,q2,q3,q4⟩:=HCl.out w' hS;go_simp;with_reducible rfl
     ·simp only [Act.put,List.setIfInBounds_toArray,List.set_cons_zero,List.set_cons_succ,i64_w];rfl
     apply pu 7 (some 24) [8,24] rfl rfl (by kernel_rfl) (fun _ _ _ h=>h) (by rfl)
     ·intro w';go_simp;with_reducible rfl
     ·simp only [Act.put,List.setIfInBounds_toArray,List.set_cons_zero,List.set_cons_succ,i64_w];rfl
     apply pu 8 (some 25) [9,23] rfl rfl (by kernel_rfl) (fun _ _ _ h=>h) (by rfl)
     ·intro w';go_simp;with_reducible rfl
     ·simp only [Act.put,List.setIfInBounds_toArray,List.set_cons_zero,List.set_cons_succ,i64_w];rfl
     apply pu 9 (some 26) [10,22] rfl rfl (by kernel_rfl) (fun _ _ _ h=>h) (by rfl)
     ·intro w';go_simp;with_reducible rfl
     ·simp only [Act.put,List.setIfInBounds_toArray,List.set_cons_zero,List.set_cons_succ,i64_w];rfl
     apply pu 10 (some 27) [11,21] rfl rfl (by kernel_rfl) (fun _ _ _ h=>h) (by rfl)
     ·intro w';go_simp;with_reducible rfl
     ·simp only [Act.put,List.setIfInBounds_toArray,List.set_cons_zero,List.set_cons_succ,i64_w];rfl
     apply pu 11 (some 28) [12,20] rfl rfl (by kernel_rfl) (fun _ _ _ h=>h) (by rfl)
     ·intro w';go_simp;with_reducible rfl
     ·simp only [Act.put,List.setIfInBounds_toArray,List.set_cons_zero,List.set_cons_succ,i64_w];rfl
     apply pu 12 (some 29) [13,19] rfl rfl (by kernel_rfl) (fun _ _ _ h=>h) (by rfl)
     ·intro w';go_simp;with_reducible rfl
     ·simp only [Act.put,List.setIfInBounds_toArray,List.set_cons_zero,List.set_cons_succ,i64_w];rfl
     apply pu 13 (some 30) [14,18] rfl rfl (by kernel_rfl) (fun _ _ _ h=>h) (by rfl)
     ·intro w';go_simp;with_reducible rfl
     ·simp only [Act.put,List.setIfInBounds_toArray,List.set_cons_zero,List.set_cons_succ,i64_w];rfl
     apply pu 14 (some 31) [15,17] rfl rfl (by kernel_rfl) (fun _ _ _ h=>h) (by rfl)
     ·intro w';go_simp;with_reducible rfl
     ·simp only [Act.put,List.setIfInBounds_toArray,List.set_cons_zero,List.set_cons_succ,i64_w];rfl
     apply pu 15 (some 32) [16,16] rfl rfl (by kernel_rfl) (fun _ _ _ h=>h) (by rfl)
     ·intro w';go_simp;with_reducible rfl
     ·simp only [Act.put,List.setIfInBounds_toArray,List.set_cons_zero,List.set_cons_succ,i64_w];rfl
     refine one_ (i:=16) (N:=some 33) (TG [17,15]) rfl rfl (by kernel_rfl) (by decide) (fun K hK=>?_)
     refine goes_ Tryd.func39 (by kernel_rfl) rfl #[.pointer (some ⟨g,0,none⟩), .int .i64 (k:Nat)] (by rfl) rfl rfl (by simp only [List.map_toArray,List.map_cons,List.map_nil];rfl) ?_
     with_reducible refine (idle_calls g (some ad0) c0 l (some ad1) c1 dn left v3 W.drew (HF.out.below hHeld) k hk).mono ?_
     rintro e W2 ⟨rfl,hb⟩
     refine ⟨_,rfl,?_⟩
     rw [HX.out]
     refine hK.out _ _ (below_step hHeld hb) (fun hHeld=>?_)
     clear hK K
     refine norm_ (a':=?_) ?_ ?_
     rotate_left
     ·show Act.put _ (some 33) _=_
      simp only [Act.put,List.setIfInBounds_toArray,List.set_cons_zero,List.set_cons_succ,i64_w];rfl
     have HF2:=Aside0.mk (HF.out.below hHeld)
     have HB2:=Aside0.mk (below_step HB.out hHeld)
     clear HF HB
     cases hid:idleB x<;>rw [hid] at HWB
     ·apply pu 17 (some 34) [18,14] rfl rfl (by kernel_rfl) (fun _ _ _ h=>h) (by rfl)
      ·intro w';go_simp;with_reducible rfl
      ·simp only [Act.put,List.setIfInBounds_toArray,List.set_cons_zero,List.set_cons_succ,i64_w];rfl
      apply pu 18 (some 35) [19,13] rfl rfl (by kernel_rfl) (fun _ _ _ h=>h) (by rfl)
      ·intro w';go_simp;with_reducible rfl
      ·simp only [Act.put,List.setIfInBounds_toArray,List.set_cons_zero,List.set_cons_succ,i64_w];rfl
      apply pu 19 (some 36) [20,12] rfl rfl (by kernel_rfl) (fun _ _ _ h=>h) (by rfl)
      ·intro w';go_simp;with_reducible rfl
      ·simp only [Act.put,List.setIfInBounds_toArray,List.set_cons_zero,List.set_cons_succ,i64_w];rfl
      apply pu 20 (some 37) [21,11] rfl rfl (by kernel_rfl) (fun _ _ _ h=>h) (by rfl)
      ·intro w';go_simp;with_reducible rfl
      ·simp only [Act.put,List.setIfInBounds_toArray,List.set_cons_zero,List.set_cons_succ,i64_w];rfl
      apply pu 22 (some 39) [21,1,1,9] rfl rfl (by kernel_rfl) (fun _ _ _ h=>h) (by rfl)
      ·intro w';go_simp;with_reducible rfl
      ·simp only [Act.put,List.setIfInBounds_toArray,List.set_cons_zero,List.set_cons_succ,i64_w];rfl
      apply pu 23 (some 40) [21,1,2,8] rfl rfl (by kernel_rfl) (fun _ _ _ h=>h) (by rfl)
      ·intro w';go_simp;with_reducible rfl
      ·simp only [Act.put,List.setIfInBounds_toArray,List.set_cons_zero,List.set_cons_succ,i64_w];rfl
      apply pu 24 (some 41) [21,1,3,7] rfl rfl (by kernel_rfl) (fun _ _ _ h=>h) (by rfl)
      ·intro w';go_simp;with_reducible rfl
      ·simp only [Act.put,List.setIfInBounds_toArray,List.set_cons_zero,List.set_cons_succ,i64_w];rfl
      apply pu 26 (some 43) [21,1,3,1,1,5] rfl rfl (by kernel_rfl) (fun _ _ _ h=>h) (by rfl)
      ·intro w';go_simp;with_reducible rfl
      ·simp only [Act.put,List.setIfInBounds_toArray,List.set_cons_zero,List.set_cons_succ,i64_w];rfl
      apply tk 21 (some 38) [25,1,1,5] rfl rfl (by kernel_rfl) (fun _ _ _ h=>h) hHeld (by rfl)
      ·intro w' hS;obtain ⟨q0,q1,q2,q3,q4⟩:=HCl.out w' hS;go_simp;with_reducible rfl
      ·simp only [Act.put,List.setIfInBounds_toArray,List.set_cons_zero,List.set_cons_succ,i64_w];rfl
      apply tk 25 (some 42) [27,5] rfl rfl (by kernel_rfl) (fun _ _ _ h=>h) hHeld (by rfl)
      ·intro w' hS;obtain ⟨q0,q1,q2,q3,q4⟩:=HCl.out w' hS;go_simp;with_reducible rfl
      ·simp only [Act.put,List.setIfInBounds_toArray,List.set_cons_zero,List.set_cons_succ,i64_w];rfl
      apply pu 27 (some 44) [28,4] rfl rfl (by kernel_rfl) (fun _ _ _ h=>h) (by rfl)
      ·intro w';go_simp;with_reducible rfl
      ·simp only [Act.put,List.setIfInBounds_toArray,List.set_cons_zero,List.set_cons_succ,i64_w];rfl
      apply pu 28 (some 45) [29,3] rfl rfl (by kernel_rfl) (fun _ _ _ h=>h) (by rfl)
      ·intro w';go_simp;with_reducible rfl
      ·simp only [Act.put,List.setIfInBounds_toArray,List.set_cons_zero,List.set_cons_succ,i64_w];rfl
      apply tk 29 (some 46) [30,2] rfl rfl (by kernel_rfl) (fun _ _ _ h=>h) hHeld (by rfl)
      ·intro w' hS;obtain ⟨q0,q1,q2,q3,q4⟩:=HCl.out w' hS;go_simp;with_reducible rfl
      ·simp only [Act.put,List.setIfInBounds_toArray,List.set_cons_zero,List.set_cons_succ,i64_w];rfl
      apply pu 30 (some 47) [31,1] rfl rfl (by kernel_rfl) (fun _ _ _ h=>h) (by rfl)
      ·intro w';go_simp;with_reducible rfl
      ·simp only [Act.put,List.setIfInBounds_toArray,List.set_cons_zero,List.set_cons_succ,i64_w];rfl
      apply pu 31 (some 48) [32] rfl rfl (by kernel_rfl) (fun _ _ _ h=>h) (by rfl)
      ·intro w';go_simp;with_reducible rfl
      ·simp only [Act.put,List.setIfInBounds_toArray,List.set_cons_zero,List.set_cons_succ,i64_w];rfl
      refine done_ (by kernel_rfl) ?_
      cases hlt:decide (x.f1 < y.f0)<;>rw [hlt] at HWB
      ·go_wp2
       go_roundg (l.length - k)
       case measure=>have:=HG.out.2;omega
       case rel=>exact ⟨k+1,by go_num,⟨by have:=HG.out;omega⟩,⟨fun j hj=>by
        by_cases hq:j=k
        ·subst hq;exact HWB.out
        ·exact HA.out j (by omega)⟩,⟨HF2.out,HB2.out⟩⟩
      ·have HO:=Aside0.mk (freeB_no hk HWB.out)
       go_wp2
       go_ret
       exact ⟨by rw [HO.out];rfl,HB2.out⟩
     ·apply pu 17 (some 34) [18,14] rfl rfl (by kernel_rfl) (fun _ _ _ h=>h) (by rfl)
      ·intro w';go_simp;with_reducible rfl
      ·simp only [Act.put,List.setIfInBounds_toArray,List.set_cons_zero,List.set_cons_succ,i64_w];rfl
      apply pu 18 (some 35) [19,13] rfl rfl (by kernel_rfl) (fun _ _ _ h=>h) (by rfl)
      ·intro w';go_simp;with_reducible rfl
      ·simp only [Act.put,List.setIfInBounds_toArray,List.set_cons_zero,List.set_cons_succ,i64_w];rfl
      apply pu 19 (some 36) [20,12] rfl rfl (by kernel_rfl) (fun _ _ _ h=>h) (by rfl)
      ·intro w';go_simp;with_reducible rfl
      ·simp only [Act.put,List.setIfInBounds_toArray,List.set_cons_zero,List.set_cons_succ,i64_w];rfl
      apply pn 20 (some 37) [21,11] rfl rfl (by kernel_rfl) (fun _ _ _ h=>h) (by rfl)
      ·simp only [Act.put,List.setIfInBounds_toArray,List.set_cons_zero,List.set_cons_succ,i64_w];rfl
      apply pn 21 (some 38) [22,10] rfl rfl (by kernel_rfl) (fun _ _ _ h=>h) (by rfl)
      ·simp only [Act.put,List.setIfInBounds_toArray,List.set_cons_zero,List.set_cons_succ,i64_w];rfl
      apply pn 22 (some 39) [23,9] rfl rfl (by kernel_rfl) (fun _ _ _ h=>h) (by rfl)
      ·simp only [Act.put,List.setIfInBounds_toArray,List.set_cons_zero,List.set_cons_succ,i64_w];rfl
      apply pn 23 (some 40) [24,8] rfl rfl (by kernel_rfl) (fun _ _ _ h=>h) (by rfl)
      ·simp only [Act.put,List.setIfInBounds_toArray,List.set_cons_zero,List.set_cons_succ,i64_w];rfl
      apply pn 24 (some 41) [25,7] rfl rfl (by kernel_rfl) (fun _ _ _ h=>h) (by rfl)
      ·simp only [Act.put,List.setIfInBounds_toArray,List.set_cons_zero,List.set_cons_succ,i64_w];rfl
      apply pn 25 (some 42) [26,6] rfl rfl (by kernel_rfl) (fun _ _ _ h=>h) (by rfl)
      ·simp only [Act.put,List.setIfInBounds_toArray,List.set_cons_zero,List.set_cons_succ,i64_w];rfl
      apply pn 26 (some 43) [27,5] rfl rfl (by kernel_rfl) (fun _ _ _ h=>h) (by rfl)
      ·simp only [Act.put,List.setIfInBounds_toArray,List.set_cons_zero,List.set_cons_succ,i64_w];rfl
      apply pn 27 (some 44) [28,4] rfl rfl (by kernel_rfl) (fun _ _ _ h=>h) (by rfl)
      ·simp only [Act.put,List.setIfInBounds_toArray,List.set_cons_zero,List.set_cons_succ,i64_w];rfl
      apply pn 28 (some 45) [29,3] rfl rfl (by kernel_rfl) (fun _ _ _ h=>h) (by rfl)
      ·simp only [Act.put,List.setIfInBounds_toArray,List.set_cons_zero,List.set_cons_succ,i64_w];rfl
      apply pn 29 (some 46) [30,2] rfl rfl (by kernel_rfl) (fun _ _ _ h=>h) (by rfl)
      ·simp only [Act.put,List.setIfInBounds_toArray,List.set_cons_zero,List.set_cons_succ,i64_w];rfl
      apply pn 30 (some 47) [31,1] rfl rfl (by kernel_rfl) (fun _ _ _ h=>h) (by rfl)
      ·simp only [Act.put,List.setIfInBounds_toArray,List.set_cons_zero,List.set_cons_succ,i64_w];rfl
      apply pu 31 (some 48) [32] rfl rfl (by kernel_rfl) (fun _ _ _ h=>h) (by rfl)
      ·intro w';go_simp;with_reducible rfl
      ·simp only [Act.put,List.setIfInBounds_toArray,List.set_cons_zero,List.set_cons_succ,i64_w];rfl
      refine done_ (by kernel_rfl) ?_
      go_wp2
      go_roundg (l.length - k)
      case measure=>have:=HG.out.2;omega
      case rel=>exact ⟨k+1,by go_num,⟨by have:=HG.out;omega⟩,⟨fun j hj=>by
       by_cases hq:j=k
       ·subst hq;exact HWB.out
       ·exact HA.out j (by omega)⟩,⟨HF2.out,HB2.out⟩⟩
  ·have ltb:decide ((k:Int) < (l.length:Int))=false:=decide_eq_false (by omega)
   have ltc:decide (k < l.length)=false:=decide_eq_false hk
   have HO:=Aside0.mk (freeB_yes (l:=l) (dn:=dn) (i:=i) (fun j hj=>HA.out j (by omega)))
   go_wp2
   go_ret
   exact ⟨by rw [HO.out];rfl,HS.out.2⟩
end Go.Proofs.YthejnffhfmdpnaaDoor.Q

end

section
namespace Go.Proofs.YthejnffhfmdpnaaDoor.Q
open Go.RowKit Go.Proofs.YthejnffhfmdpnaaDoor.Spec Go.Proofs.YthejnffhfmdpnaaDoorW.PrintWords Go.Proofs.YthejnffhfmdpnaaDoorW.PrintLast Go.Proofs.YthejnffhfmdpnaaDoorW.PrintMore
set_option linter.unusedVariables false
set_option linter.unusedSimpArgs false
def saysB (x:S45) (a:DoV):Bool:=if idleB x=true then a.2.2.1 == 0 else sameB a.2.2.1 a.2.2.2.1 a.2.2.2.2.1 a.2.2.2.2.2.1 x.f3.f0 x.f3.f1 x.f3.f2 x.f3.f3
def doE (fl:Int) (tr:List ByteArray) (x:S45):DoV:=doP fl tr x.f2.f0 x.f2.f1 x.f2.f2
def nextB (l:List S45) (dn:List Bool) (fl:Int) (tr:List ByteArray) (i:Nat):Int × List ByteArray × Bool:=
 if freeB l dn i=true then ((doE fl tr (rd_T45 l (i:Int))).1,(doE fl tr (rd_T45 l (i:Int))).2.1,saysB (rd_T45 l (i:Int)) (doE fl tr (rd_T45 l (i:Int)))) else (fl,tr,false)
theorem nextB_no {l:List S45} {dn:List Bool} {fl:Int} {tr:List ByteArray} {i:Nat} (h:freeB l dn i=false):nextB l dn fl tr i=(fl,tr,false):=by
 unfold nextB
 rw [if_neg (by rw [h];decide)]
theorem nextB_yes {l:List S45} {dn:List Bool} {fl:Int} {tr:List ByteArray} {i:Nat} (h:freeB l dn i=true) {x:S45} (hx:x=rd_T45 l (i:Int)) {a:DoV} (ha:a=doE fl tr x):nextB l dn fl tr i=(a.1,a.2.1,saysB x a):=by
 subst ha hx
 unfold nextB
 rw [if_pos h]
def VR (w:World) (At:Option Addr) (ct:Nat) (tr:List ByteArray) (a:DoV) (v1 v5 v6:Value) (W:World):Prop:=((v1= .slice At tr.length ct∧a.2.1=tr)∨Kd.R Kd.string 9 W w.heap.size (fun _=>True) v1 a.2.1)∧Kd.R k66 66 W w.heap.size (fun _=>True) v5 a.2.2.2.2.2.1∧Kd.R Kd.string 9 W w.heap.size (fun _=>True) v6 a.2.2.2.2.2.2
theorem VR.below {w W W1:World} {At:Option Addr} {ct:Nat} {tr:List ByteArray} {a:DoV} {v1 v5 v6:Value} (h:VR w At ct tr a v1 v5 v6 W) (hb:Below W.heap.size W W1):VR w At ct tr a v1 v5 v6 W1:=
 ⟨h.1.imp id (fun h=>Kd.R_below h hb),Kd.R_below h.2.1 hb,Kd.R_below h.2.2 hb⟩
theorem VR.of {w W W1:World} {At:Option Addr} {ct:Nat} {tr:List ByteArray} {a:DoV} {v1 v5 v6:Value} (hs:w.heap.size≤W.heap.size) (hv:(v1= .slice At tr.length ct∧a.2.1=tr)∨Kd.R Kd.string 9 W1 W.heap.size (fun _=>True) v1 a.2.1) (h5:Kd.R k66 66 W1 W.heap.size (fun _=>True) v5 a.2.2.2.2.2.1) (h6:Kd.R Kd.string 9 W1 W.heap.size (fun _=>True) v6 a.2.2.2.2.2.2):VR w At ct tr a v1 v5 v6 W1:=
 ⟨hv.imp id (fun h=>Kd.R_lower h hs),Kd.R_lower h5 hs,Kd.R_lower h6 hs⟩
theorem VR.sl {w W:World} {At:Option Addr} {ct:Nat} {tr:List ByteArray} {a:DoV} {v1 v5 v6:Value} (h:VR w At ct tr a v1 v5 v6 W):(∃A c,v1= .slice A a.2.1.length c)∧(∃A c,v5= .slice A a.2.2.2.2.2.1.length c)∧ ∃A c,v6= .slice A a.2.2.2.2.2.2.length c:=
 ⟨h.1.elim (fun h=>⟨At,ct,by rw [h.1,h.2]⟩) (fun h=>Kd.R_slice h),Kd.R_slice h.2.1,Kd.R_slice h.2.2⟩
theorem VR.only {w W W1:World} {At:Option Addr} {ct:Nat} {tr:List ByteArray} {a:DoV} {v1 v5 v6:Value} (h:VR w At ct tr a v1 v5 v6 W) {g t:Nat} {c:Array Value} (hb:W.heap[g]? =some (.cells c t (0,0))) (h9:t≠9) (h66:t≠66) (ho: ∀k,k≠g→W1.heap[k]? =W.heap[k]?):VR w At ct tr a v1 v5 v6 W1:=by
 have e66: ∀q,q ∈ 66::k66.E→q≠t:=fun q hq=>by
  obtain rfl:q=66:=by simpa [k66,Kd.iso,Kd.pair,Kd.string,Kd.int,Kd.scalar] using hq
  exact h66.symm
 have e9: ∀q,q ∈ 9::Kd.string.E→q≠t:=fun q hq=>by
  obtain rfl:q=9:=by simpa [Kd.string,Kd.scalar] using hq
  exact h9.symm
 exact ⟨h.1.imp id (fun h=>Kd.R_mono (Kd.R_step (Kd.R_types h hb e9) (fun k hk _=>ho k hk.2)) (fun _ hk=>hk.1)),Kd.R_mono (Kd.R_step (Kd.R_types h.2.1 hb e66) (fun k hk _=>ho k hk.2)) (fun _ hk=>hk.1),Kd.R_mono (Kd.R_step (Kd.R_types h.2.2 hb e9) (fun k hk _=>ho k hk.2)) (fun _ hk=>hk.1)⟩
theorem Bx.only {w W W1:World} {L:List (Array Value × Nat)} (h:Bx w L W) {g:Nat} (hg:w.heap.size+L.length≤g) (ho: ∀k,k≠g→W1.heap[k]? =W.heap[k]?) (hB:Below w.heap.size w W→w.heap.size≤g→Below w.heap.size w W1):Bx w L W1:=by
 refine ⟨fun i c t hi=>?_,hB h.2 (by omega)⟩
 have hl:i < L.length:=by
  by_cases q:i < L.length
  ·exact q
  ·rw [List.getElem?_eq_none (by omega)] at hi;simp at hi
 rw [ho _ (by omega)]
 exact h.1 i c t hi
theorem put2 {W:World} {g t:Nat} {x0 x1:Value} (h:W.heap[g]? =some (.cells #[x0,x1] t (0,0))) (y0 y1:Value):((W.setCell ⟨g,0,none⟩ y0).setCell ⟨g,1,none⟩ y1).heap[g]? =some (.cells #[y0,y1] t (0,0))∧(∀k,k≠g→((W.setCell ⟨g,0,none⟩ y0).setCell ⟨g,1,none⟩ y1).heap[k]? =W.heap[k]?)∧ ∀w:World,Below w.heap.size w W→w.heap.size≤g→Below w.heap.size w ((W.setCell ⟨g,0,none⟩ y0).setCell ⟨g,1,none⟩ y1):=
 ⟨blk_put (blk_put h 0 _ rfl) 1 _ rfl,fun k hk=>by repeat rw [Below.heap_setCell _ _ _ _ hk],fun w hB hg=>below_set (below_set hB hg) hg⟩
theorem st2 {W:World} {g t:Nat} {x0 x1:Value} (h:W.heap[g]? =some (.cells #[x0,x1] t (0,0))) (y0:Value):(W.setCell ⟨g,0,none⟩ y0).cell? ⟨g,1,none⟩=some x1∧(W.setCell ⟨g,0,none⟩ y0).frozen? ⟨g,1,none⟩=false:=by
 have h1:(W.setCell ⟨g,0,none⟩ y0).heap[g]? =some (.cells #[y0,x1] t (0,0)):=blk_put h 0 _ rfl
 exact ⟨(cells2 h1).1.2,(cells2 h1).2.2⟩
theorem st5 {W:World} {g t:Nat} {x0 x1 x2 x3 x4:Value} (h:W.heap[g]? =some (.cells #[x0,x1,x2,x3,x4] t (0,0))) (y0 y1 y2 y3:Value):(W.setCell ⟨g,0,none⟩ y0).cell? ⟨g,1,none⟩=some x1∧(W.setCell ⟨g,0,none⟩ y0).frozen? ⟨g,1,none⟩=false∧((W.setCell ⟨g,0,none⟩ y0).setCell ⟨g,1,none⟩ y1).cell? ⟨g,2,none⟩=some x2∧((W.setCell ⟨g,0,none⟩ y0).setCell ⟨g,1,none⟩ y1).frozen? ⟨g,2,none⟩=false∧(((W.setCell ⟨g,0,none⟩ y0).setCell ⟨g,1,none⟩ y1).setCell ⟨g,2,none⟩ y2).cell? ⟨g,3,none⟩=some x3∧(((W.setCell ⟨g,0,none⟩ y0).setCell ⟨g,1,none⟩ y1).setCell ⟨g,2,none⟩ y2).frozen? ⟨g,3,none⟩=false∧((((W.setCell ⟨g,0,none⟩ y0).setCell ⟨g,1,none⟩ y1).setCell ⟨g,2,none⟩ y2).setCell ⟨g,3,none⟩ y3).cell? ⟨g,4,none⟩=some x4∧((((W.setCell ⟨g,0,none⟩ y0).setCell ⟨g,1,none⟩ y1).setCell ⟨g,2,none⟩ y2).setCell ⟨g,3,none⟩ y3).frozen? ⟨g,4,none⟩=false:=by
 have h1:(W.setCell ⟨g,0,none⟩ y0).heap[g]? =some (.cells #[y0,x1,x2,x3,x4] t (0,0)):=blk_put h 0 _ rfl
 have h2:((W.setCell ⟨g,0,none⟩ y0).setCell ⟨g,1,none⟩ y1).heap[g]? =some (.cells #[y0,y1,x2,x3,x4] t (0,0)):=blk_put h1 1 _ rfl
 have h3:(((W.setCell ⟨g,0,none⟩ y0).setCell ⟨g,1,none⟩ y1).setCell ⟨g,2,none⟩ y2).heap[g]? =some (.cells #[y0,y1,y2,x3,x4] t (0,0)):=blk_put h2 2 _ rfl
 have h4:((((W.setCell ⟨g,0,none⟩ y0).setCell ⟨g,1,none⟩ y1).setCell ⟨g,2,none⟩ y2).setCell ⟨g,3,none⟩ y3).heap[g]? =some (.cells #[y0,y1,y2,y3,x4] t (0,0)):=blk_put h3 3 _ rfl
 exact ⟨(cells5 h1).1.2.1,(cells5 h1).2 _,(cells5 h2).1.2.2.1,(cells5 h2).2 _,(cells5 h3).1.2.2.2.1,(cells5 h3).2 _,(cells5 h4).1.2.2.2.2,(cells5 h4).2 _⟩
def NextPost (w:World) (At:Option Addr) (ct:Nat) (tr:List ByteArray) (r:Int × List ByteArray × Bool) (e:Ending) (w':World):Prop:=
 ∃v1,e= .returned (.tuple #[.agg #[.int .i64 r.1,v1], .bool r.2.2])∧((v1= .slice At tr.length ct∧r.2.1=tr)∨Kd.R Kd.string 9 w' w.heap.size (fun _=>True) v1 r.2.1)∧Below w.heap.size w w'
set_option maxHeartbeats 8000000 in
set_option maxRecDepth 100000 in
theorem next_calls (A0:Option Addr) (c0:Nat) (l:List S45) (A1:Option Addr) (c1:Nat) (dn:List Bool) (fl:Int) (At:Option Addr) (ct:Nat) (tr:List ByteArray) (i:Nat) (w:World) (hr0:Kd.C k45 w A0 l.length l) (hr1:Kd.C Kd.bool w A1 l.length dn) (hd:dn.length=l.length) (hrt:Kd.C Kd.string w At tr.length tr) (hct:tr.length≤ct) (ht:tr.length < 1000000) (hs: ∀x ∈ l,x.f2.f2.length≤1000) (hi:i < l.length):
  Calls Tryd.prog 28 #[.slice A0 l.length c0, .slice A1 l.length c1, .agg #[.int .i64 fl, .slice At tr.length ct], .int .i64 i] w (NextPost w At ct tr (nextB l dn fl tr i)):=by
 have HR0:=Aside0.mk hr0
 have HR1:=Aside0.mk (And.intro hr1 hd)
 have HT:=Aside0.mk (And.intro hrt (And.intro hct ht))
 have HSm:=Aside0.mk hs
 have HI:=Aside0.mk hi
 have hlm:=hr0.2.1
 have HX:=Aside0.mk ((Bx.one w #[.int .i64 fl, .slice At tr.length ct] 33).more (by simp) #[.int .i64 0, .slice none 0 0] 33)
 clear hr0 hr1 hd hrt hct ht hs hi
 go_enter Tryd.func28,Tryd.ntmps28
 go_wp2
 generalize (w.alloc (.cells #[.int .i64 fl, .slice At tr.length ct] 33)).alloc (.cells #[.int .i64 0, .slice none 0 0] 33)=w0 at HX ⊢
 go_loopg [10] (l.length+1) (fun gq v10 wr=> ∃k:Nat,v10= .int .i64 k∧Aside0 (k≤l.length∧gq+k=l.length+1)∧Aside0 (∀j,j < k→waysB l dn i j=true)∧Aside0 (Bx w [(#[.int .i64 fl, .slice At tr.length ct],33),(#[.int .i64 0, .slice none 0 0],33)] wr))
 case atStart=>exact ⟨0,rfl,⟨by omega⟩,⟨fun j hj=>absurd hj (Nat.not_lt_zero _)⟩,HX⟩
 case round=>
  clear HX
  obtain ⟨k,rfl,HG,HA,HX⟩:=hrel
  have hle:=HG.out.1
  have b1:=HX.out.at_ 0 _ _ rfl
  rw [Nat.add_zero] at b1
  have b2:=HX.out.at_ 1 _ _ rfl
  obtain ⟨⟨z0,z1⟩, -⟩:=cells2 b1
  obtain ⟨⟨d0,d1⟩,e0,e1⟩:=cells2 b2
  have HB:=Aside0.mk HX.out.bel
  by_cases hlt:k < l.length
  ·have ltb:decide ((k:Int) < (l.length:Int))=true:=decide_eq_true (by omega)
   have ltc:decide (k < l.length)=true:=decide_eq_true hlt
   have hii:=HI.out
   obtain ⟨ad,ead,y0⟩:=Kd.at_bool HR1.out.1 (k:Int) (by omega) (by omega)
   cases ead
   obtain ⟨ad0,A4,c4,A8,c8,A9,c9,ead0,x0,x1,x2,x3,x4,x5,x6,x7,x8,x9, -⟩:=at_T45 HR0.out (k:Int) (by omega) (by omega)
   cases ead0
   obtain ⟨ad0',A4',c4',A8',c8',A9',c9',ead0,u0, -⟩:=at_T45 HR0.out (i:Int) (by omega) (by omega)
   cases ead0
   rw [Int.toNat_natCast] at y0 x0 x1 x2 x3 x4 x5 x6 x7 x8 x9 u0
   have p200:=eq_true (show (0:Int)≤(k:Int) by omega)
   have q200:=eq_true (show (k:Int) < (l.length:Int) by omega)
   have p201:=eq_true (show (0:Int)≤(i:Int) by omega)
   have q201:=eq_true (show (i:Int) < (l.length:Int) by omega)
   obtain ⟨x,hx⟩: ∃x,x=rd_T45 l (k:Int):=⟨_,rfl⟩
   obtain ⟨y,hy⟩: ∃y,y=rd_T45 l (i:Int):=⟨_,rfl⟩
   have HD:=Aside0.mk (show waysB l dn i k=(rdOf false dn (k:Int) || ((k:Int) == (i:Int) || (idleB x || !decide (x.f1 < y.f0)))) by rw [hx,hy];rfl)
   rw [← hx] at x0 x1 x2 x3 x4 x5 x6 x7 x8 x9
   rw [← hy] at u0
   clear hx hy hle hii
   have HNo:=Aside0.mk (fun w=>openl_calls x (.slice A4 x.f2.f2.length c4) (.slice A8 x.f3.f3.length c8) (.slice A9 x.f3.f4.length c9) w)
   have hki:((k:Int) != (i:Int))= !((k:Int) == (i:Int)):=rfl
   have hkj:(k == i)=((k:Int) == (i:Int)):=by rw [Bool.eq_iff_iff,beq_iff_eq,beq_iff_eq];omega
   have hkk:(k != i)= !((k:Int) == (i:Int)):=by rw [← hkj];rfl
   generalize rdOf false dn (k:Int)=b1 at y0 HD
   generalize idleB x=b2 at HNo HD
   have HC:=Aside0.mk (show ∀w',Bx w [(#[.int .i64 fl, .slice At tr.length ct],33),(#[.int .i64 0, .slice none 0 0],33)] w'→w'.cell? (ad.add k)=some (.bool b1)∧w'.cell? (ad0.add (i*10))=some (.int .i64 y.f0)∧w'.cell? (ad0.add (k*10))=some (.int .i64 x.f0)∧w'.cell? ⟨(ad0.add (k*10)).block,(ad0.add (k*10)).off+1,none⟩=some (.int .i64 x.f1)∧w'.cell? ⟨(ad0.add (k*10)).block,(ad0.add (k*10)).off+2,none⟩=some (.int .i64 x.f2.f0)∧w'.cell? ⟨(ad0.add (k*10)).block,(ad0.add (k*10)).off+3,none⟩=some (.int .i64 x.f2.f1)∧w'.cell? ⟨(ad0.add (k*10)).block,(ad0.add (k*10)).off+4,none⟩=some (.slice A4 x.f2.f2.length c4)∧w'.cell? ⟨(ad0.add (k*10)).block,(ad0.add (k*10)).off+5,none⟩=some (.int .i64 x.f3.f0)∧w'.cell? ⟨(ad0.add (k*10)).block,(ad0.add (k*10)).off+6,none⟩=some (.int .i64 x.f3.f1)∧w'.cell? ⟨(ad0.add (k*10)).block,(ad0.add (k*10)).off+7,none⟩=some (.int .i64 x.f3.f2)∧w'.cell? ⟨(ad0.add (k*10)).block,(ad0.add (k*10)).off+8,none⟩=some (.slice A8 x.f3.f3.length c8)∧w'.cell? ⟨(ad0.add (k*10)).block,(ad0.add (k*10)).off+9,none⟩=some (.slice A9 x.f3.f4.length c9) from fun w' hS=>by
    have hcl: ∀{q v},w.cell? q=some v→w'.cell? q=some v:=fun {q v} h=>(hS.bel.cell (World.block_lt_of_cell? w _ h)).trans h
    exact ⟨hcl y0,hcl u0,hcl x0,hcl x1,hcl x2,hcl x3,hcl x4,hcl x5,hcl x6,hcl x7,hcl x8,hcl x9⟩)
   clear y0 u0 x0 x1 x2 x3 x4 x5 x6 x7 x8 x9
   by_cases hq:b1=true∨(k:Int)=(i:Int)
   ·obtain ⟨y0,u0,x0,x1,x2,x3,x4,x5,x6,x7,x8,x9⟩:=HC.out wr HX.out
    have HE:Aside0 (waysB l dn i k=true):=⟨by rw [HD.out];rcases hq with h|h<;>simp [h]⟩
    cases b1<;>cases h3:(k:Int) == (i:Int)<;>rw [h3] at hki hkj hkk
    case false.false=>simp at hq h3;omega
    all_goals
     clear hq
     go_wp2_with fail
     go_quiet (fail)
     go_wp2_with fail
     replace HD:=HE
     go_roundg (l.length - k)
     case measure=>have:=HG.out.2;omega
     case rel=>exact ⟨k+1,by go_num,⟨by have:=HG.out;omega⟩,⟨fun j hj=>by
      by_cases hq:j=k
      ·subst hq;exact HD.out
      ·exact HA.out j (by omega)⟩,⟨HX.out.below (by first|exact pw_below_drewN (Below.refl _ _) _|exact below_drew (Below.refl _ _))⟩⟩
   ·obtain rfl:b1=false:=by simpa using fun e=>hq (.inl e)
    have h3:((k:Int) == (i:Int))=false:=beq_eq_false_iff_ne.mpr (fun e=>hq (.inr e))
    rw [h3] at hki hkj hkk HD
    clear hq
    go_wp2_with fail
    refine start_ (n:=31) (S:=fun w'=>Bx w [(#[.int .i64 fl, .slice At tr.length ct],33),(#[.int .i64 0, .slice none 0 0],33)] w') (ds:=[]) (TG [0,31]) (by kernel_rfl) rfl rfl HX.out.drew (fun hHeld=>?_)
    apply pu 0 (some 19) [1,30] rfl rfl (by kernel_rfl) (fun _ _ _ h=>h) (by rfl)
    ·intro w';go_simp;with_reducible rfl
    ·simp only [Act.put,List.setIfInBounds_toArray,List.set_cons_zero,List.set_cons_succ,i64_w];rfl
    apply pu 1 (some 20) [2,29] rfl rfl (by kernel_rfl) (fun _ _ _ h=>h) (by rfl)
    ·intro w';go_simp;with_reducible rfl
    ·simp only [Act.put,List.setIfInBounds_toArray,List.set_cons_zero,List.set_cons_succ,i64_w];rfl
    apply pu 2 (some 21) [3,28] rfl rfl (by kernel_rfl) (fun _ _ _ h=>h) (by rfl)
    ·intro w';go_simp;with_reducible rfl
    ·simp only [Act.put,List.setIfInBounds_toArray,List.set_cons_zero,List.set_cons_succ,i64_w];rfl
    apply tk 3 (some 22) [4,27] rfl rfl (by kernel_rfl) (fun _ _ _ h=>h) hHeld (by rfl)
    ·intro w' hS;obtain ⟨y0,u0,x0,x1,x2,x3,x4,x5,x6,x7,x8,x9⟩:=HC.out w' hS;go_simp;with_reducible rfl
    ·simp only [Act.put,List.setIfInBounds_toArray,List.set_cons_zero,List.set_cons_succ,i64_w];rfl
    apply pu 4 (some 23) [5,26] rfl rfl (by kernel_rfl) (fun _ _ _ h=>h) (by rfl)
    ·intro w';go_simp;with_reducible rfl
    ·simp only [Act.put,List.setIfInBounds_toArray,List.set_cons_zero,List.set_cons_succ,i64_w];rfl
    apply pu 5 (some 24) [6,25] rfl rfl (by kernel_rfl) (fun _ _ _ h=>h) (by rfl)
    ·intro w';go_simp;with_reducible rfl
    ·simp only [Act.put,List.setIfInBounds_toArray,List.set_cons_zero,List.set_cons_succ,i64_w];rfl
    apply pu 6 (some 25) [7,24] rfl rfl (by kernel_rfl) (fun _ _ _ h=>h) (by rfl)
    ·intro w';go_simp;with_reducible rfl
    ·simp only [Act.put,List.setIfInBounds_toArray,List.set_cons_zero,List.set_cons_succ,i64_w];rfl
    apply pu 7 (some 26) [8,23] rfl rfl (by kernel_rfl) (fun _ _ _ h=>h) (by rfl)
    ·intro w';go_simp;with_reducible rfl
    ·simp only [Act.put,List.setIfInBounds_toArray,List.set_cons_zero,List.set_cons_succ,i64_w];rfl
    apply pu 8 (some 27) [9,22] rfl rfl (by kernel_rfl) (fun _ _ _ h=>h) (by rfl)
    ·intro w';go_simp;with_reducible rfl
    ·simp only [Act.put,List.setIfInBounds_toArray,List.set_cons_zero,List.set_cons_succ,i64_w];rfl
    apply pu 9 (some 28) [10,21] rfl rfl (by kernel_rfl) (fun _ _ _ h=>h) (by rfl)
    ·intro w';go_simp;with_reducible rfl
    ·simp only [Act.put,List.setIfInBounds_toArray,List.set_cons_zero,List.set_cons_succ,i64_w];rfl
    apply pu 10 (some 29) [11,20] rfl rfl (by kernel_rfl) (fun _ _ _ h=>h) (by rfl)
    ·intro w';go_simp;with_reducible rfl
    ·simp only [Act.put,List.setIfInBounds_toArray,List.set_cons_zero,List.set_cons_succ,i64_w];rfl
    apply pu 11 (some 30) [12,19] rfl rfl (by kernel_rfl) (fun _ _ _ h=>h) (by rfl)
    ·intro w';go_simp;with_reducible rfl
    ·simp only [Act.put,List.setIfInBounds_toArray,List.set_cons_zero,List.set_cons_succ,i64_w];rfl
    apply pu 12 (some 31) [13,18] rfl rfl (by kernel_rfl) (fun _ _ _ h=>h) (by rfl)
    ·intro w';go_simp;with_reducible rfl
    ·simp only [Act.put,List.setIfInBounds_toArray,List.set_cons_zero,List.set_cons_succ,i64_w];rfl
    apply pu 13 (some 32) [14,17] rfl rfl (by kernel_rfl) (fun _ _ _ h=>h) (by rfl)
    ·intro w';go_simp;with_reducible rfl
    ·simp only [Act.put,List.setIfInBounds_toArray,List.set_cons_zero,List.set_cons_succ,i64_w];rfl
    apply tk 14 (some 33) [15,16] rfl rfl (by kernel_rfl) (fun _ _ _ h=>h) hHeld (by rfl)
    ·intro w' hS;obtain ⟨y0,u0,x0,x1,x2,x3,x4,x5,x6,x7,x8,x9⟩:=HC.out w' hS;go_simp;with_reducible rfl
    ·simp only [Act.put,List.setIfInBounds_toArray,List.set_cons_zero,List.set_cons_succ,i64_w];rfl
    refine one_ (i:=15) (N:=some 34) (TG [16,15]) rfl rfl (by kernel_rfl) (by decide) (fun K hK=>?_)
    refine goes_ Tryd.func23 (by kernel_rfl) rfl #[.agg #[.int .i64 x.f0, .int .i64 x.f1, .int .i64 x.f2.f0, .int .i64 x.f2.f1, .slice A4 x.f2.f2.length c4, .int .i64 x.f3.f0, .int .i64 x.f3.f1, .int .i64 x.f3.f2, .slice A8 x.f3.f3.length c8, .slice A9 x.f3.f4.length c9]] (by rfl) rfl rfl (by simp only [List.map_toArray,List.map_cons,List.map_nil];rfl) ?_
    with_reducible refine (HNo.out _).mono ?_
    rintro e w2 ⟨rfl,hb⟩
    refine ⟨_,rfl,?_⟩
    refine hK.out _ _ (hHeld.below hb) (fun hHeld=>?_)
    clear hK K
    refine norm_ (a':=?_) ?_ ?_
    rotate_left
    ·show Act.put _ (some 34) _=_
     simp only [Act.put,List.setIfInBounds_toArray,List.set_cons_zero,List.set_cons_succ,i64_w];rfl
    cases b2
    ·have HD:Aside0 (waysB l dn i k= !decide (x.f1 < y.f0)):=HD
     apply pu 16 (some 35) [17,14] rfl rfl (by kernel_rfl) (fun _ _ _ h=>h) (by rfl)
     ·intro w';go_simp;with_reducible rfl
     ·simp only [Act.put,List.setIfInBounds_toArray,List.set_cons_zero,List.set_cons_succ,i64_w];rfl
     apply pu 17 (some 36) [18,13] rfl rfl (by kernel_rfl) (fun _ _ _ h=>h) (by rfl)
     ·intro w';go_simp;with_reducible rfl
     ·simp only [Act.put,List.setIfInBounds_toArray,List.set_cons_zero,List.set_cons_succ,i64_w];rfl
     apply pu 18 (some 37) [19,12] rfl rfl (by kernel_rfl) (fun _ _ _ h=>h) (by rfl)
     ·intro w';go_simp;with_reducible rfl
     ·simp only [Act.put,List.setIfInBounds_toArray,List.set_cons_zero,List.set_cons_succ,i64_w];rfl
     apply pu 19 (some 38) [20,11] rfl rfl (by kernel_rfl) (fun _ _ _ h=>h) (by rfl)
     ·intro w';go_simp;with_reducible rfl
     ·simp only [Act.put,List.setIfInBounds_toArray,List.set_cons_zero,List.set_cons_succ,i64_w];rfl
     apply pu 20 (some 39) [21,10] rfl rfl (by kernel_rfl) (fun _ _ _ h=>h) (by rfl)
     ·intro w';go_simp;with_reducible rfl
     ·simp only [Act.put,List.setIfInBounds_toArray,List.set_cons_zero,List.set_cons_succ,i64_w];rfl
     apply pu 21 (some 40) [22,9] rfl rfl (by kernel_rfl) (fun _ _ _ h=>h) (by rfl)
     ·intro w';go_simp;with_reducible rfl
     ·simp only [Act.put,List.setIfInBounds_toArray,List.set_cons_zero,List.set_cons_succ,i64_w];rfl
     apply pu 22 (some 41) [23,8] rfl rfl (by kernel_rfl) (fun _ _ _ h=>h) (by rfl)
     ·intro w';go_simp;with_reducible rfl
     ·simp only [Act.put,List.setIfInBounds_toArray,List.set_cons_zero,List.set_cons_succ,i64_w];rfl
     apply pu 24 (some 43) [23,1,1,6] rfl rfl (by kernel_rfl) (fun _ _ _ h=>h) (by rfl)
     ·intro w';go_simp;with_reducible rfl
     ·simp only [Act.put,List.setIfInBounds_toArray,List.set_cons_zero,List.set_cons_succ,i64_w];rfl
     apply pu 25 (some 44) [23,1,2,5] rfl rfl (by kernel_rfl) (fun _ _ _ h=>h) (by rfl)
     ·intro w';go_simp;with_reducible rfl
     ·simp only [Act.put,List.setIfInBounds_toArray,List.set_cons_zero,List.set_cons_succ,i64_w];rfl
     apply pu 26 (some 45) [23,1,3,4] rfl rfl (by kernel_rfl) (fun _ _ _ h=>h) (by rfl)
     ·intro w';go_simp;with_reducible rfl
     ·simp only [Act.put,List.setIfInBounds_toArray,List.set_cons_zero,List.set_cons_succ,i64_w];rfl
     apply pu 27 (some 46) [23,1,4,3] rfl rfl (by kernel_rfl) (fun _ _ _ h=>h) (by rfl)
     ·intro w';go_simp;with_reducible rfl
     ·simp only [Act.put,List.setIfInBounds_toArray,List.set_cons_zero,List.set_cons_succ,i64_w];rfl
     apply tk 23 (some 42) [28,3] rfl rfl (by kernel_rfl) (fun _ _ _ h=>h) hHeld (by rfl)
     ·intro w' hS;obtain ⟨y0,u0,x0,x1,x2,x3,x4,x5,x6,x7,x8,x9⟩:=HC.out w' hS;go_simp;with_reducible rfl
     ·simp only [Act.put,List.setIfInBounds_toArray,List.set_cons_zero,List.set_cons_succ,i64_w];rfl
     apply tk 28 (some 47) [29,2] rfl rfl (by kernel_rfl) (fun _ _ _ h=>h) hHeld (by rfl)
     ·intro w' hS;obtain ⟨y0,u0,x0,x1,x2,x3,x4,x5,x6,x7,x8,x9⟩:=HC.out w' hS;go_simp;with_reducible rfl
     ·simp only [Act.put,List.setIfInBounds_toArray,List.set_cons_zero,List.set_cons_succ,i64_w];rfl
     apply pu 29 (some 48) [30,1] rfl rfl (by kernel_rfl) (fun _ _ _ h=>h) (by rfl)
     ·intro w';go_simp;with_reducible rfl
     ·simp only [Act.put,List.setIfInBounds_toArray,List.set_cons_zero,List.set_cons_succ,i64_w];rfl
     apply pu 30 (some 49) [31] rfl rfl (by kernel_rfl) (fun _ _ _ h=>h) (by rfl)
     ·intro w';go_simp;with_reducible rfl
     ·simp only [Act.put,List.setIfInBounds_toArray,List.set_cons_zero,List.set_cons_succ,i64_w];rfl
     refine done_ (by kernel_rfl) ?_
     cases h4:decide (x.f1 < y.f0)<;>rw [h4] at HD
     ·go_wp2_with fail
      go_roundg (l.length - k)
      case measure=>have:=HG.out.2;omega
      case rel=>exact ⟨k+1,by go_num,⟨by have:=HG.out;omega⟩,⟨fun j hj=>by
       by_cases hq:j=k
       ·subst hq;exact HD.out
       ·exact HA.out j (by omega)⟩,⟨hHeld⟩⟩
     ·have HO:=Aside0.mk (freeB_no hlt HD.out)
      have q1:=hHeld.at_ 0 _ _ rfl
      rw [Nat.add_zero] at q1
      have q2:=hHeld.at_ 1 _ _ rfl
      obtain ⟨⟨z0,z1⟩, -⟩:=cells2 q1
      obtain ⟨⟨d0,d1⟩,e0,e1⟩:=cells2 q2
      go_wp2_with fail
      have r2:((w2.setCell ⟨w.heap.size+1,0,none⟩ (.int .i64 fl)).setCell ⟨w.heap.size+1,1,none⟩ (.slice At tr.length ct)).heap[w.heap.size+1]? =some (.cells #[.int .i64 fl, .slice At tr.length ct] 33 (0,0)):=blk_put (blk_put q2 0 _ rfl) 1 _ rfl
      refine bodyPost_ret (v:= .tuple #[.agg #[.int .i64 fl, .slice At tr.length ct], .bool false]) ?_ rfl ?_
      ·obtain ⟨⟨s0,s1⟩, -⟩:=cells2 r2
       simp [results,Tryd.results28,go_sem,s0,s1]
      ·rw [nextB_no HO.out]
       exact ⟨_,rfl, .inl ⟨rfl,rfl⟩,below_set (below_set hHeld.bel (Nat.le_succ _)) (Nat.le_succ _)⟩
    ·have HD:Aside0 (waysB l dn i k=true):=HD
     apply pu 16 (some 35) [17,14] rfl rfl (by kernel_rfl) (fun _ _ _ h=>h) (by rfl)
     ·intro w';go_simp;with_reducible rfl
     ·simp only [Act.put,List.setIfInBounds_toArray,List.set_cons_zero,List.set_cons_succ,i64_w];rfl
     apply pu 17 (some 36) [18,13] rfl rfl (by kernel_rfl) (fun _ _ _ h=>h) (by rfl)
     ·intro w';go_simp;with_reducible rfl
     ·simp only [Act.put,List.setIfInBounds_toArray,List.set_cons_zero,List.set_cons_succ,i64_w];rfl
     apply pu 18 (some 37) [19,12] rfl rfl (by kernel_rfl) (fun _ _ _ h=>h) (by rfl)
     ·intro w';go_simp;with_reducible rfl
     ·simp only [Act.put,List.setIfInBounds_toArray,List.set_cons_zero,List.set_cons_succ,i64_w];rfl
     apply pn 19 (some 38) [20,11] rfl rfl (by kernel_rfl) (fun _ _ _ h=>h) (by rfl)
     ·simp only [Act.put,List.setIfInBounds_toArray,List.set_cons_zero,List.set_cons_succ,i64_w];rfl
     apply pn 20 (some 39) [21,10] rfl rfl (by kernel_rfl) (fun _ _ _ h=>h) (by rfl)
     ·simp only [Act.put,List.setIfInBounds_toArray,List.set_cons_zero,List.set_cons_succ,i64_w];rfl
     apply pn 21 (some 40) [22,9] rfl rfl (by kernel_rfl) (fun _ _ _ h=>h) (by rfl)
     ·simp only [Act.put,List.setIfInBounds_toArray,List.set_cons_zero,List.set_cons_succ,i64_w];rfl
     apply pn 22 (some 41) [23,8] rfl rfl (by kernel_rfl) (fun _ _ _ h=>h) (by rfl)
     ·simp only [Act.put,List.setIfInBounds_toArray,List.set_cons_zero,List.set_cons_succ,i64_w];rfl
     apply pn 23 (some 42) [24,7] rfl rfl (by kernel_rfl) (fun _ _ _ h=>h) (by rfl)
     ·simp only [Act.put,List.setIfInBounds_toArray,List.set_cons_zero,List.set_cons_succ,i64_w];rfl
     apply pn 24 (some 43) [25,6] rfl rfl (by kernel_rfl) (fun _ _ _ h=>h) (by rfl)
     ·simp only [Act.put,List.setIfInBounds_toArray,List.set_cons_zero,List.set_cons_succ,i64_w];rfl
     apply pn 25 (some 44) [26,5] rfl rfl (by kernel_rfl) (fun _ _ _ h=>h) (by rfl)
     ·simp only [Act.put,List.setIfInBounds_toArray,List.set_cons_zero,List.set_cons_succ,i64_w];rfl
     apply pn 26 (some 45) [27,4] rfl rfl (by kernel_rfl) (fun _ _ _ h=>h) (by rfl)
     ·simp only [Act.put,List.setIfInBounds_toArray,List.set_cons_zero,List.set_cons_succ,i64_w];rfl
     apply pn 27 (some 46) [28,3] rfl rfl (by kernel_rfl) (fun _ _ _ h=>h) (by rfl)
     ·simp only [Act.put,List.setIfInBounds_toArray,List.set_cons_zero,List.set_cons_succ,i64_w];rfl
     apply pn 28 (some 47) [29,2] rfl rfl (by kernel_rfl) (fun _ _ _ h=>h) (by rfl)
     ·simp only [Act.put,List.setIfInBounds_toArray,List.set_cons_zero,List.set_cons_succ,i64_w];rfl
     apply pn 29 (some 48) [30,1] rfl rfl (by kernel_rfl) (fun _ _ _ h=>h) (by rfl)
     ·simp only [Act.put,List.setIfInBounds_toArray,List.set_cons_zero,List.set_cons_succ,i64_w];rfl
     apply pu 30 (some 49) [31] rfl rfl (by kernel_rfl) (fun _ _ _ h=>h) (by rfl)
     ·intro w';go_simp;with_reducible rfl
     ·simp only [Act.put,List.setIfInBounds_toArray,List.set_cons_zero,List.set_cons_succ,i64_w];rfl
     refine done_ (by kernel_rfl) ?_
     go_wp2_with fail
     go_roundg (l.length - k)
     case measure=>have:=HG.out.2;omega
     case rel=>exact ⟨k+1,by go_num,⟨by have:=HG.out;omega⟩,⟨fun j hj=>by
      by_cases hq:j=k
      ·subst hq;exact HD.out
      ·exact HA.out j (by omega)⟩,⟨hHeld⟩⟩
  ·have ltb:decide ((k:Int) < (l.length:Int))=false:=decide_eq_false (by omega)
   have ltc:decide (k < l.length)=false:=decide_eq_false hlt
   have hii:=HI.out
   obtain ⟨ad0,A4,c4,A8,c8,A9,c9,ead0,x0,x1,x2,x3,x4,x5,x6,x7,x8,x9,l4,g4,l8,g8,l9,g9⟩:=at_T45 HR0.out (i:Int) (by omega) (by omega)
   cases ead0
   rw [Int.toNat_natCast] at x0 x1 x2 x3 x4 x5 x6 x7 x8 x9
   have p201:=eq_true (show (0:Int)≤(i:Int) by omega)
   have q201:=eq_true (show (i:Int) < (l.length:Int) by omega)
   obtain ⟨x,hx⟩: ∃x,x=rd_T45 l (i:Int):=⟨_,rfl⟩
   obtain ⟨a,ha⟩: ∃a,a=doE fl tr x:=⟨_,rfl⟩
   have HO:=Aside0.mk (nextB_yes (fl:=fl) (tr:=tr) (freeB_yes (l:=l) (dn:=dn) (i:=i) (fun j hj=>HA.out j (by omega))) hx ha)
   have hxl:x.f2.f2.length≤1000:=HSm.out x (by rw [hx,rd_T45,Int.toNat_natCast,List.getD_eq_getElem?_getD,List.getElem?_eq_getElem hii,Option.getD_some];exact List.getElem_mem hii)
   rw [← hx] at x0 x1 x2 x3 x4 x5 x6 x7 x8 x9 l4 g4 l8 g8 l9 g9
   have HC:=Aside0.mk (show ∀w',Below w.heap.size w w'→w'.cell? (ad0.add (i*10))=some (.int .i64 x.f0)∧w'.cell? ⟨(ad0.add (i*10)).block,(ad0.add (i*10)).off+1,none⟩=some (.int .i64 x.f1)∧w'.cell? ⟨(ad0.add (i*10)).block,(ad0.add (i*10)).off+2,none⟩=some (.int .i64 x.f2.f0)∧w'.cell? ⟨(ad0.add (i*10)).block,(ad0.add (i*10)).off+3,none⟩=some (.int .i64 x.f2.f1)∧w'.cell? ⟨(ad0.add (i*10)).block,(ad0.add (i*10)).off+4,none⟩=some (.slice A4 x.f2.f2.length c4)∧w'.cell? ⟨(ad0.add (i*10)).block,(ad0.add (i*10)).off+5,none⟩=some (.int .i64 x.f3.f0)∧w'.cell? ⟨(ad0.add (i*10)).block,(ad0.add (i*10)).off+6,none⟩=some (.int .i64 x.f3.f1)∧w'.cell? ⟨(ad0.add (i*10)).block,(ad0.add (i*10)).off+7,none⟩=some (.int .i64 x.f3.f2)∧w'.cell? ⟨(ad0.add (i*10)).block,(ad0.add (i*10)).off+8,none⟩=some (.slice A8 x.f3.f3.length c8)∧w'.cell? ⟨(ad0.add (i*10)).block,(ad0.add (i*10)).off+9,none⟩=some (.slice A9 x.f3.f4.length c9) from fun w' hS=>by
    have hcl: ∀{q v},w.cell? q=some v→w'.cell? q=some v:=fun {q v} h=>(hS.cell (World.block_lt_of_cell? w _ h)).trans h
    exact ⟨hcl x0,hcl x1,hcl x2,hcl x3,hcl x4,hcl x5,hcl x6,hcl x7,hcl x8,hcl x9⟩)
   have HDo:=Aside0.mk (show ∀W,Bx w [(#[.int .i64 fl, .slice At tr.length ct],33),(#[.int .i64 0, .slice none 0 0],33)] W→Calls Tryd.prog 16 #[.agg #[.int .i64 fl, .slice At tr.length ct], .agg #[.int .i64 x.f2.f0, .int .i64 x.f2.f1, .slice A4 x.f2.f2.length c4]] W (DoPost W At ct tr a) from fun W hW=>by
    have:=do16_calls fl At ct tr x.f2.f0 x.f2.f1 A4 c4 x.f2.f2 W (Kd.C_below HT.out.1 hW.bel) HT.out.2.1 (Kd.C_below g4 hW.bel) l4 hxl HT.out.2.2
    rw [ha];exact this)
   have HC8:=Aside0.mk g8
   have HNo:=Aside0.mk (fun w=>openl_calls x (.slice A4 x.f2.f2.length c4) (.slice A8 x.f3.f3.length c8) (.slice A9 x.f3.f4.length c9) w)
   clear hx ha hxl x0 x1 x2 x3 x4 x5 x6 x7 x8 x9 l4 g4 l8 g8 l9 g9 hle hii z0 z1 d0 d1 e0 e1 b1 b2
   go_wp2_with fail
   refine start_ (n:=14) (S:=fun w'=>Bx w [(#[.int .i64 fl, .slice At tr.length ct],33),(#[.int .i64 0, .slice none 0 0],33)] w') (ds:=[]) (TG [0,14]) (by kernel_rfl) rfl rfl HX.out.drew (fun hHeld=>?_)
   replace HX:=Aside0.mk HX.out.drew
   generalize wr.drew=W0 at HX hHeld ⊢
   apply pu 1 (some 53) [0,1,1,12] rfl rfl (by kernel_rfl) (fun _ _ _ h=>h) (by rfl)
   ·intro w';go_simp;with_reducible rfl
   ·simp only [Act.put,List.setIfInBounds_toArray,List.set_cons_zero,List.set_cons_succ,i64_w];rfl
   apply pu 2 (some 54) [0,1,2,11] rfl rfl (by kernel_rfl) (fun _ _ _ h=>h) (by rfl)
   ·intro w';go_simp;with_reducible rfl
   ·simp only [Act.put,List.setIfInBounds_toArray,List.set_cons_zero,List.set_cons_succ,i64_w];rfl
   apply pu 3 (some 55) [0,1,3,10] rfl rfl (by kernel_rfl) (fun _ _ _ h=>h) (by rfl)
   ·intro w';go_simp;with_reducible rfl
   ·simp only [Act.put,List.setIfInBounds_toArray,List.set_cons_zero,List.set_cons_succ,i64_w];rfl
   apply pu 4 (some 56) [0,1,4,9] rfl rfl (by kernel_rfl) (fun _ _ _ h=>h) (by rfl)
   ·intro w';go_simp;with_reducible rfl
   ·simp only [Act.put,List.setIfInBounds_toArray,List.set_cons_zero,List.set_cons_succ,i64_w];rfl
   apply tk 0 (some 52) [5,9] rfl rfl (by kernel_rfl) (fun _ _ _ h=>h) hHeld (by rfl)
   ·intro w' hS;obtain ⟨x0,x1,x2,x3,x4,x5,x6,x7,x8,x9⟩:=HC.out w' hS.bel;have q1:=hS.at_ 0 _ _ rfl;rw [Nat.add_zero] at q1;obtain ⟨⟨z0,z1⟩, -⟩:=cells2 q1;go_simp;with_reducible rfl
   ·simp only [Act.put,List.setIfInBounds_toArray,List.set_cons_zero,List.set_cons_succ,i64_w];rfl
   apply tk 5 (some 57) [6,8] rfl rfl (by kernel_rfl) (fun _ _ _ h=>h) hHeld (by rfl)
   ·intro w' hS;obtain ⟨x0,x1,x2,x3,x4,x5,x6,x7,x8,x9⟩:=HC.out w' hS.bel;have q1:=hS.at_ 0 _ _ rfl;rw [Nat.add_zero] at q1;obtain ⟨⟨z0,z1⟩, -⟩:=cells2 q1;go_simp;with_reducible rfl
   ·simp only [Act.put,List.setIfInBounds_toArray,List.set_cons_zero,List.set_cons_succ,i64_w];rfl
   refine join_ (σ:=(Value × Value × Value) × Nat × Nat) 2 (TG [12,2]) (fun s_=>[(58, .tuple #[.agg #[.int .i64 a.1,s_.1.1], .agg #[.int .i64 a.2.2.1, .int .i64 a.2.2.2.1, .int .i64 a.2.2.2.2.1,s_.1.2.1,s_.1.2.2]]),(51, .tuple #[.agg #[.int .i64 a.1,s_.1.1], .agg #[.int .i64 a.2.2.1, .int .i64 a.2.2.2.1, .int .i64 a.2.2.2.2.1,s_.1.2.1,s_.1.2.2]]),(59, .agg #[.int .i64 a.1,s_.1.1]),(60, .agg #[.int .i64 a.2.2.1, .int .i64 a.2.2.2.1, .int .i64 a.2.2.2.2.1,s_.1.2.1,s_.1.2.2]),(11, .pointer (some ⟨s_.2.1,0,none⟩)),(12, .pointer (some ⟨s_.2.2,0,none⟩))]) (fun s_ w'=>Bx w [(#[.int .i64 fl, .slice At tr.length ct],33),(#[.int .i64 0, .slice none 0 0],33)] w'∧VR w At ct tr a s_.1.1 s_.1.2.1 s_.1.2.2 w'∧(w.heap.size+1 < s_.2.1∧w'.heap[s_.2.1]? =some (.cells #[.int .i64 0, .slice none 0 0] 33 (0,0)))∧w.heap.size+1 < s_.2.2∧w'.heap[s_.2.2]? =some (.cells #[.int .i64 0, .int .i64 0, .int .i64 0, .slice none 0 0, .slice none 0 0] 39 (0,0))) ?_ ?_
   rotate_left
   ·intro hCont
    refine three_ (i:=6) (j:=10) (k:=11) (Ni:=some 58) (Nj:=some 11) (Nk:=some 12) (TG [7,7]) (TG [6,4,1,3]) (TG [6,5,1,2]) rfl rfl rfl rfl rfl rfl (by kernel_rfl) (by decide) (by decide) (by decide) (fun K hK=>?_) (fun K hK=>?_) (fun K hK=>?_)
    ·skip
     refine goes_ Tryd.func16 (by kernel_rfl) rfl #[.agg #[.int .i64 fl, .slice At tr.length ct], .agg #[.int .i64 x.f2.f0, .int .i64 x.f2.f1, .slice A4 x.f2.f2.length c4]] (by rfl) rfl rfl (by simp only [List.map_toArray,List.map_cons,List.map_nil];rfl) ?_
     with_reducible refine (HDo.out _ HX.out).mono ?_
     rintro e U1 ⟨v1,v5,v6,rfl,hv,h5,h6,hb⟩
     refine ⟨_,rfl,?_⟩
     have HV:=Aside0.mk (VR.of HX.out.bel.size hv h5 h6)
     replace HX:=Aside0.mk (HX.out.below hb)
     clear hv h5 h6 hb
     refine hK.out _ _ HX.out (fun hHeld=>?_)
     clear hK K
     refine norm_ (a':=?_) ?_ ?_
     rotate_left
     ·show Act.put _ (some 58) _=_
      simp only [Act.put,List.setIfInBounds_toArray,List.set_cons_zero,List.set_cons_succ,i64_w];rfl
     apply pu 7 (some 51) [8,6] rfl rfl (by kernel_rfl) (fun _ _ _ h=>h) (by rfl)
     ·intro w';go_simp;with_reducible rfl
     ·simp only [Act.put,List.setIfInBounds_toArray,List.set_cons_zero,List.set_cons_succ,i64_w];rfl
     apply pu 8 (some 59) [9,5] rfl rfl (by kernel_rfl) (fun _ _ _ h=>h) (by rfl)
     ·intro w';go_simp;with_reducible rfl
     ·simp only [Act.put,List.setIfInBounds_toArray,List.set_cons_zero,List.set_cons_succ,i64_w];rfl
     apply pu 9 (some 60) [10,4] rfl rfl (by kernel_rfl) (fun _ _ _ h=>h) (by rfl)
     ·intro w';go_simp;with_reducible rfl
     ·simp only [Act.put,List.setIfInBounds_toArray,List.set_cons_zero,List.set_cons_succ,i64_w];rfl
     refine two_ (i:=10) (j:=11) (Ni:=some 11) (Nj:=some 12) (TG [11,3]) (TG [10,1,1,2]) rfl rfl rfl rfl (by kernel_rfl) (by decide) (by decide) (fun K hK=>?_) (fun K hK=>?_)
     ·skip
      refine value_ (w1:=?_) (v:=?_) (by rfl) rfl ?_ ?_
      rotate_left 2
      ·go_simp
       constructor
       ·rfl
       ·rfl
      have HP:=Aside0.mk (And.intro (blk_lt (HX.out.at_ 1 _ _ rfl)) (blk_new U1 (.cells #[.int .i64 0, .slice none 0 0] 33)))
      replace HX:=Aside0.mk (HX.out.alloc (.cells #[.int .i64 0, .slice none 0 0] 33))
      replace HV:=Aside0.mk (HV.out.below (below_alloc (Below.refl _ _) (.cells #[.int .i64 0, .slice none 0 0] 33)))
      generalize U1.heap.size=ga at HP ⊢
      generalize U1.alloc (.cells #[.int .i64 0, .slice none 0 0] 33)=U2 at HX HV HP ⊢
      refine hK.out _ _ HX.out (fun hHeld=>?_)
      clear hK K
      refine norm_ (a':=?_) ?_ ?_
      rotate_left
      ·show Act.put _ (some 11) _=_
       simp only [Act.put,List.setIfInBounds_toArray,List.set_cons_zero,List.set_cons_succ,i64_w];rfl
      refine one_ (i:=11) (N:=some 12) (TG [12,2]) rfl rfl (by kernel_rfl) (by decide) (fun K hK=>?_)
      refine value_ (w1:=?_) (v:=?_) (by rfl) rfl ?_ ?_
      rotate_left 2
      ·go_simp
       constructor
       ·rfl
       ·rfl
      have HQ:=Aside0.mk (And.intro (blk_lt (HX.out.at_ 1 _ _ rfl)) (blk_new U2 (.cells #[.int .i64 0, .int .i64 0, .int .i64 0, .slice none 0 0, .slice none 0 0] 39)))
      replace HX:=Aside0.mk (HX.out.alloc (.cells #[.int .i64 0, .int .i64 0, .int .i64 0, .slice none 0 0, .slice none 0 0] 39))
      replace HV:=Aside0.mk (HV.out.below (below_alloc (Below.refl _ _) (.cells #[.int .i64 0, .int .i64 0, .int .i64 0, .slice none 0 0, .slice none 0 0] 39)))
      replace HP:=Aside0.mk (And.intro HP.out.1 (blk_below HP.out.2 (below_alloc (Below.refl _ _) (.cells #[.int .i64 0, .int .i64 0, .int .i64 0, .slice none 0 0, .slice none 0 0] 39))))
      generalize U2.heap.size=gb at HQ ⊢
      generalize U2.alloc (.cells #[.int .i64 0, .int .i64 0, .int .i64 0, .slice none 0 0, .slice none 0 0] 39)=U3 at HX HV HP HQ ⊢
      refine hK.out _ _ HX.out (fun hHeld=>?_)
      clear hK K
      refine norm_ (a':=?_) ?_ ?_
      rotate_left
      ·show Act.put _ (some 12) _=_
       simp only [Act.put,List.setIfInBounds_toArray,List.set_cons_zero,List.set_cons_succ,i64_w];rfl
      exact norm_ (by simp only [putAll,Act.put,List.setIfInBounds_toArray,List.set_cons_zero,List.set_cons_succ]) (hCont ((v1,v5,v6),ga,gb) _ ⟨HX.out,HV.out,HP.out,HQ.out⟩)
     ·skip
      refine value_ (w1:=?_) (v:=?_) (by rfl) rfl ?_ ?_
      rotate_left 2
      ·go_simp
       constructor
       ·rfl
       ·rfl
      have HQ:=Aside0.mk (And.intro (blk_lt (HX.out.at_ 1 _ _ rfl)) (blk_new U1 (.cells #[.int .i64 0, .int .i64 0, .int .i64 0, .slice none 0 0, .slice none 0 0] 39)))
      replace HX:=Aside0.mk (HX.out.alloc (.cells #[.int .i64 0, .int .i64 0, .int .i64 0, .slice none 0 0, .slice none 0 0] 39))
      replace HV:=Aside0.mk (HV.out.below (below_alloc (Below.refl _ _) (.cells #[.int .i64 0, .int .i64 0, .int .i64 0, .slice none 0 0, .slice none 0 0] 39)))
      generalize U1.heap.size=gb at HQ ⊢
      generalize U1.alloc (.cells #[.int .i64 0, .int .i64 0, .int .i64 0, .slice none 0 0, .slice none 0 0] 39)=U4 at HX HV HQ ⊢
      refine hK.out _ _ HX.out (fun hHeld=>?_)
      clear hK K
      refine norm_ (a':=?_) ?_ ?_
      rotate_left
      ·show Act.put _ (some 12) _=_
       simp only [Act.put,List.setIfInBounds_toArray,List.set_cons_zero,List.set_cons_succ,i64_w];rfl
      refine one_ (i:=10) (N:=some 11) (TG [12,2]) rfl rfl (by kernel_rfl) (by decide) (fun K hK=>?_)
      refine value_ (w1:=?_) (v:=?_) (by rfl) rfl ?_ ?_
      rotate_left 2
      ·go_simp
       constructor
       ·rfl
       ·rfl
      have HP:=Aside0.mk (And.intro (blk_lt (HX.out.at_ 1 _ _ rfl)) (blk_new U4 (.cells #[.int .i64 0, .slice none 0 0] 33)))
      replace HX:=Aside0.mk (HX.out.alloc (.cells #[.int .i64 0, .slice none 0 0] 33))
      replace HV:=Aside0.mk (HV.out.below (below_alloc (Below.refl _ _) (.cells #[.int .i64 0, .slice none 0 0] 33)))
      replace HQ:=Aside0.mk (And.intro HQ.out.1 (blk_below HQ.out.2 (below_alloc (Below.refl _ _) (.cells #[.int .i64 0, .slice none 0 0] 33))))
      generalize U4.heap.size=ga at HP ⊢
      generalize U4.alloc (.cells #[.int .i64 0, .slice none 0 0] 33)=U5 at HX HV HP HQ ⊢
      refine hK.out _ _ HX.out (fun hHeld=>?_)
      clear hK K
      refine norm_ (a':=?_) ?_ ?_
      rotate_left
      ·show Act.put _ (some 11) _=_
       simp only [Act.put,List.setIfInBounds_toArray,List.set_cons_zero,List.set_cons_succ,i64_w];rfl
      exact norm_ (by simp only [putAll,Act.put,List.setIfInBounds_toArray,List.set_cons_zero,List.set_cons_succ]) (hCont ((v1,v5,v6),ga,gb) _ ⟨HX.out,HV.out,HP.out,HQ.out⟩)
    ·skip
     refine value_ (w1:=?_) (v:=?_) (by rfl) rfl ?_ ?_
     rotate_left 2
     ·go_simp
      constructor
      ·rfl
      ·rfl
     have HP:=Aside0.mk (And.intro (blk_lt (HX.out.at_ 1 _ _ rfl)) (blk_new W0 (.cells #[.int .i64 0, .slice none 0 0] 33)))
     replace HX:=Aside0.mk (HX.out.alloc (.cells #[.int .i64 0, .slice none 0 0] 33))
     generalize W0.heap.size=ga at HP ⊢
     generalize W0.alloc (.cells #[.int .i64 0, .slice none 0 0] 33)=U6 at HX HP ⊢
     refine hK.out _ _ HX.out (fun hHeld=>?_)
     clear hK K
     refine norm_ (a':=?_) ?_ ?_
     rotate_left
     ·show Act.put _ (some 11) _=_
      simp only [Act.put,List.setIfInBounds_toArray,List.set_cons_zero,List.set_cons_succ,i64_w];rfl
     refine two_ (i:=6) (j:=11) (Ni:=some 58) (Nj:=some 12) (TG [7,3,1,3]) (TG [6,4,2,2]) rfl rfl rfl rfl (by kernel_rfl) (by decide) (by decide) (fun K hK=>?_) (fun K hK=>?_)
     ·skip
      refine goes_ Tryd.func16 (by kernel_rfl) rfl #[.agg #[.int .i64 fl, .slice At tr.length ct], .agg #[.int .i64 x.f2.f0, .int .i64 x.f2.f1, .slice A4 x.f2.f2.length c4]] (by rfl) rfl rfl (by simp only [List.map_toArray,List.map_cons,List.map_nil];rfl) ?_
      with_reducible refine (HDo.out _ HX.out).mono ?_
      rintro e U7 ⟨v1,v5,v6,rfl,hv,h5,h6,hb⟩
      refine ⟨_,rfl,?_⟩
      have HV:=Aside0.mk (VR.of HX.out.bel.size hv h5 h6)
      replace HX:=Aside0.mk (HX.out.below hb)
      replace HP:=Aside0.mk (And.intro HP.out.1 (blk_below HP.out.2 hb))
      clear hv h5 h6 hb
      refine hK.out _ _ HX.out (fun hHeld=>?_)
      clear hK K
      refine norm_ (a':=?_) ?_ ?_
      rotate_left
      ·show Act.put _ (some 58) _=_
       simp only [Act.put,List.setIfInBounds_toArray,List.set_cons_zero,List.set_cons_succ,i64_w];rfl
      apply pu 7 (some 51) [8,2,1,3] rfl rfl (by kernel_rfl) (fun _ _ _ h=>h) (by rfl)
      ·intro w';go_simp;with_reducible rfl
      ·simp only [Act.put,List.setIfInBounds_toArray,List.set_cons_zero,List.set_cons_succ,i64_w];rfl
      apply pu 8 (some 59) [9,1,1,3] rfl rfl (by kernel_rfl) (fun _ _ _ h=>h) (by rfl)
      ·intro w';go_simp;with_reducible rfl
      ·simp only [Act.put,List.setIfInBounds_toArray,List.set_cons_zero,List.set_cons_succ,i64_w];rfl
      apply pu 9 (some 60) [11,3] rfl rfl (by kernel_rfl) (fun _ _ _ h=>h) (by rfl)
      ·intro w';go_simp;with_reducible rfl
      ·simp only [Act.put,List.setIfInBounds_toArray,List.set_cons_zero,List.set_cons_succ,i64_w];rfl
      refine one_ (i:=11) (N:=some 12) (TG [12,2]) rfl rfl (by kernel_rfl) (by decide) (fun K hK=>?_)
      refine value_ (w1:=?_) (v:=?_) (by rfl) rfl ?_ ?_
      rotate_left 2
      ·go_simp
       constructor
       ·rfl
       ·rfl
      have HQ:=Aside0.mk (And.intro (blk_lt (HX.out.at_ 1 _ _ rfl)) (blk_new U7 (.cells #[.int .i64 0, .int .i64 0, .int .i64 0, .slice none 0 0, .slice none 0 0] 39)))
      replace HX:=Aside0.mk (HX.out.alloc (.cells #[.int .i64 0, .int .i64 0, .int .i64 0, .slice none 0 0, .slice none 0 0] 39))
      replace HV:=Aside0.mk (HV.out.below (below_alloc (Below.refl _ _) (.cells #[.int .i64 0, .int .i64 0, .int .i64 0, .slice none 0 0, .slice none 0 0] 39)))
      replace HP:=Aside0.mk (And.intro HP.out.1 (blk_below HP.out.2 (below_alloc (Below.refl _ _) (.cells #[.int .i64 0, .int .i64 0, .int .i64 0, .slice none 0 0, .slice none 0 0] 39))))
      generalize U7.heap.size=gb at HQ ⊢
      generalize U7.alloc (.cells #[.int .i64 0, .int .i64 0, .int .i64 0, .slice none 0 0, .slice none 0 0] 39)=U8 at HX HV HP HQ ⊢
      refine hK.out _ _ HX.out (fun hHeld=>?_)
      clear hK K
      refine norm_ (a':=?_) ?_ ?_
      rotate_left
      ·show Act.put _ (some 12) _=_
       simp only [Act.put,List.setIfInBounds_toArray,List.set_cons_zero,List.set_cons_succ,i64_w];rfl
      exact norm_ (by simp only [putAll,Act.put,List.setIfInBounds_toArray,List.set_cons_zero,List.set_cons_succ]) (hCont ((v1,v5,v6),ga,gb) _ ⟨HX.out,HV.out,HP.out,HQ.out⟩)
     ·skip
      refine value_ (w1:=?_) (v:=?_) (by rfl) rfl ?_ ?_
      rotate_left 2
      ·go_simp
       constructor
       ·rfl
       ·rfl
      have HQ:=Aside0.mk (And.intro (blk_lt (HX.out.at_ 1 _ _ rfl)) (blk_new U6 (.cells #[.int .i64 0, .int .i64 0, .int .i64 0, .slice none 0 0, .slice none 0 0] 39)))
      replace HX:=Aside0.mk (HX.out.alloc (.cells #[.int .i64 0, .int .i64 0, .int .i64 0, .slice none 0 0, .slice none 0 0] 39))
      replace HP:=Aside0.mk (And.intro HP.out.1 (blk_below HP.out.2 (below_alloc (Below.refl _ _) (.cells #[.int .i64 0, .int .i64 0, .int .i64 0, .slice none 0 0, .slice none 0 0] 39))))
      generalize U6.heap.size=gb at HQ ⊢
      generalize U6.alloc (.cells #[.int .i64 0, .int .i64 0, .int .i64 0, .slice none 0 0, .slice none 0 0] 39)=U9 at HX HP HQ ⊢
      refine hK.out _ _ HX.out (fun hHeld=>?_)
      clear hK K
      refine norm_ (a':=?_) ?_ ?_
      rotate_left
      ·show Act.put _ (some 12) _=_
       simp only [Act.put,List.setIfInBounds_toArray,List.set_cons_zero,List.set_cons_succ,i64_w];rfl
      refine one_ (i:=6) (N:=some 58) (TG [7,3,2,2]) rfl rfl (by kernel_rfl) (by decide) (fun K hK=>?_)
      refine goes_ Tryd.func16 (by kernel_rfl) rfl #[.agg #[.int .i64 fl, .slice At tr.length ct], .agg #[.int .i64 x.f2.f0, .int .i64 x.f2.f1, .slice A4 x.f2.f2.length c4]] (by rfl) rfl rfl (by simp only [List.map_toArray,List.map_cons,List.map_nil];rfl) ?_
      with_reducible refine (HDo.out _ HX.out).mono ?_
      rintro e U10 ⟨v1,v5,v6,rfl,hv,h5,h6,hb⟩
      refine ⟨_,rfl,?_⟩
      have HV:=Aside0.mk (VR.of HX.out.bel.size hv h5 h6)
      replace HX:=Aside0.mk (HX.out.below hb)
      replace HP:=Aside0.mk (And.intro HP.out.1 (blk_below HP.out.2 hb))
      replace HQ:=Aside0.mk (And.intro HQ.out.1 (blk_below HQ.out.2 hb))
      clear hv h5 h6 hb
      refine hK.out _ _ HX.out (fun hHeld=>?_)
      clear hK K
      refine norm_ (a':=?_) ?_ ?_
      rotate_left
      ·show Act.put _ (some 58) _=_
       simp only [Act.put,List.setIfInBounds_toArray,List.set_cons_zero,List.set_cons_succ,i64_w];rfl
      apply pu 7 (some 51) [8,2,2,2] rfl rfl (by kernel_rfl) (fun _ _ _ h=>h) (by rfl)
      ·intro w';go_simp;with_reducible rfl
      ·simp only [Act.put,List.setIfInBounds_toArray,List.set_cons_zero,List.set_cons_succ,i64_w];rfl
      apply pu 8 (some 59) [9,1,2,2] rfl rfl (by kernel_rfl) (fun _ _ _ h=>h) (by rfl)
      ·intro w';go_simp;with_reducible rfl
      ·simp only [Act.put,List.setIfInBounds_toArray,List.set_cons_zero,List.set_cons_succ,i64_w];rfl
      apply pu 9 (some 60) [12,2] rfl rfl (by kernel_rfl) (fun _ _ _ h=>h) (by rfl)
      ·intro w';go_simp;with_reducible rfl
      ·simp only [Act.put,List.setIfInBounds_toArray,List.set_cons_zero,List.set_cons_succ,i64_w];rfl
      exact norm_ (by simp only [putAll,Act.put,List.setIfInBounds_toArray,List.set_cons_zero,List.set_cons_succ]) (hCont ((v1,v5,v6),ga,gb) _ ⟨HX.out,HV.out,HP.out,HQ.out⟩)
    ·skip
     refine value_ (w1:=?_) (v:=?_) (by rfl) rfl ?_ ?_
     rotate_left 2
     ·go_simp
      constructor
      ·rfl
      ·rfl
     have HQ:=Aside0.mk (And.intro (blk_lt (HX.out.at_ 1 _ _ rfl)) (blk_new W0 (.cells #[.int .i64 0, .int .i64 0, .int .i64 0, .slice none 0 0, .slice none 0 0] 39)))
     replace HX:=Aside0.mk (HX.out.alloc (.cells #[.int .i64 0, .int .i64 0, .int .i64 0, .slice none 0 0, .slice none 0 0] 39))
     generalize W0.heap.size=gb at HQ ⊢
     generalize W0.alloc (.cells #[.int .i64 0, .int .i64 0, .int .i64 0, .slice none 0 0, .slice none 0 0] 39)=U11 at HX HQ ⊢
     refine hK.out _ _ HX.out (fun hHeld=>?_)
     clear hK K
     refine norm_ (a':=?_) ?_ ?_
     rotate_left
     ·show Act.put _ (some 12) _=_
      simp only [Act.put,List.setIfInBounds_toArray,List.set_cons_zero,List.set_cons_succ,i64_w];rfl
     refine two_ (i:=6) (j:=10) (Ni:=some 58) (Nj:=some 11) (TG [7,4,1,2]) (TG [6,4,2,2]) rfl rfl rfl rfl (by kernel_rfl) (by decide) (by decide) (fun K hK=>?_) (fun K hK=>?_)
     ·skip
      refine goes_ Tryd.func16 (by kernel_rfl) rfl #[.agg #[.int .i64 fl, .slice At tr.length ct], .agg #[.int .i64 x.f2.f0, .int .i64 x.f2.f1, .slice A4 x.f2.f2.length c4]] (by rfl) rfl rfl (by simp only [List.map_toArray,List.map_cons,List.map_nil];rfl) ?_
      with_reducible refine (HDo.out _ HX.out).mono ?_
      rintro e U12 ⟨v1,v5,v6,rfl,hv,h5,h6,hb⟩
      refine ⟨_,rfl,?_⟩
      have HV:=Aside0.mk (VR.of HX.out.bel.size hv h5 h6)
      replace HX:=Aside0.mk (HX.out.below hb)
      replace HQ:=Aside0.mk (And.intro HQ.out.1 (blk_below HQ.out.2 hb))
      clear hv h5 h6 hb
      refine hK.out _ _ HX.out (fun hHeld=>?_)
      clear hK K
      refine norm_ (a':=?_) ?_ ?_
      rotate_left
      ·show Act.put _ (some 58) _=_
       simp only [Act.put,List.setIfInBounds_toArray,List.set_cons_zero,List.set_cons_succ,i64_w];rfl
      apply pu 7 (some 51) [8,3,1,2] rfl rfl (by kernel_rfl) (fun _ _ _ h=>h) (by rfl)
      ·intro w';go_simp;with_reducible rfl
      ·simp only [Act.put,List.setIfInBounds_toArray,List.set_cons_zero,List.set_cons_succ,i64_w];rfl
      apply pu 8 (some 59) [9,2,1,2] rfl rfl (by kernel_rfl) (fun _ _ _ h=>h) (by rfl)
      ·intro w';go_simp;with_reducible rfl
      ·simp only [Act.put,List.setIfInBounds_toArray,List.set_cons_zero,List.set_cons_succ,i64_w];rfl
      apply pu 9 (some 60) [10,1,1,2] rfl rfl (by kernel_rfl) (fun _ _ _ h=>h) (by rfl)
      ·intro w';go_simp;with_reducible rfl
      ·simp only [Act.put,List.setIfInBounds_toArray,List.set_cons_zero,List.set_cons_succ,i64_w];rfl
      refine one_ (i:=10) (N:=some 11) (TG [12,2]) rfl rfl (by kernel_rfl) (by decide) (fun K hK=>?_)
      refine value_ (w1:=?_) (v:=?_) (by rfl) rfl ?_ ?_
      rotate_left 2
      ·go_simp
       constructor
       ·rfl
       ·rfl
      have HP:=Aside0.mk (And.intro (blk_lt (HX.out.at_ 1 _ _ rfl)) (blk_new U12 (.cells #[.int .i64 0, .slice none 0 0] 33)))
      replace HX:=Aside0.mk (HX.out.alloc (.cells #[.int .i64 0, .slice none 0 0] 33))
      replace HV:=Aside0.mk (HV.out.below (below_alloc (Below.refl _ _) (.cells #[.int .i64 0, .slice none 0 0] 33)))
      replace HQ:=Aside0.mk (And.intro HQ.out.1 (blk_below HQ.out.2 (below_alloc (Below.refl _ _) (.cells #[.int .i64 0, .slice none 0 0] 33))))
      generalize U12.heap.size=ga at HP ⊢
      generalize U12.alloc (.cells #[.int .i64 0, .slice none 0 0] 33)=U13 at HX HV HP HQ ⊢
      refine hK.out _ _ HX.out (fun hHeld=>?_)
      clear hK K
      refine norm_ (a':=?_) ?_ ?_
      rotate_left
      ·show Act.put _ (some 11) _=_
       simp only [Act.put,List.setIfInBounds_toArray,List.set_cons_zero,List.set_cons_succ,i64_w];rfl
      exact norm_ (by simp only [putAll,Act.put,List.setIfInBounds_toArray,List.set_cons_zero,List.set_cons_succ]) (hCont ((v1,v5,v6),ga,gb) _ ⟨HX.out,HV.out,HP.out,HQ.out⟩)
     ·skip
      refine value_ (w1:=?_) (v:=?_) (by rfl) rfl ?_ ?_
      rotate_left 2
      ·go_simp
       constructor
       ·rfl
       ·rfl
      have HP:=Aside0.mk (And.intro (blk_lt (HX.out.at_ 1 _ _ rfl)) (blk_new U11 (.cells #[.int .i64 0, .slice none 0 0] 33)))
      replace HX:=Aside0.mk (HX.out.alloc (.cells #[.int .i64 0, .slice none 0 0] 33))
      replace HQ:=Aside0.mk (And.intro HQ.out.1 (blk_below HQ.out.2 (below_alloc (Below.refl _ _) (.cells #[.int .i64 0, .slice none 0 0] 33))))
      generalize U11.heap.size=ga at HP ⊢
      generalize U11.alloc (.cells #[.int .i64 0, .slice none 0 0] 33)=U14 at HX HP HQ ⊢
      refine hK.out _ _ HX.out (fun hHeld=>?_)
      clear hK K
      refine norm_ (a':=?_) ?_ ?_
      rotate_left
      ·show Act.put _ (some 11) _=_
       simp only [Act.put,List.setIfInBounds_toArray,List.set_cons_zero,List.set_cons_succ,i64_w];rfl
      refine one_ (i:=6) (N:=some 58) (TG [7,3,2,2]) rfl rfl (by kernel_rfl) (by decide) (fun K hK=>?_)
      refine goes_ Tryd.func16 (by kernel_rfl) rfl #[.agg #[.int .i64 fl, .slice At tr.length ct], .agg #[.int .i64 x.f2.f0, .int .i64 x.f2.f1, .slice A4 x.f2.f2.length c4]] (by rfl) rfl rfl (by simp only [List.map_toArray,List.map_cons,List.map_nil];rfl) ?_
      with_reducible refine (HDo.out _ HX.out).mono ?_
      rintro e U15 ⟨v1,v5,v6,rfl,hv,h5,h6,hb⟩
      refine ⟨_,rfl,?_⟩
      have HV:=Aside0.mk (VR.of HX.out.bel.size hv h5 h6)
      replace HX:=Aside0.mk (HX.out.below hb)
      replace HP:=Aside0.mk (And.intro HP.out.1 (blk_below HP.out.2 hb))
      replace HQ:=Aside0.mk (And.intro HQ.out.1 (blk_below HQ.out.2 hb))
      clear hv h5 h6 hb
      refine hK.out _ _ HX.out (fun hHeld=>?_)
      clear hK K
      refine norm_ (a':=?_) ?_ ?_
      rotate_left
      ·show Act.put _ (some 58) _=_
       simp only [Act.put,List.setIfInBounds_toArray,List.set_cons_zero,List.set_cons_succ,i64_w];rfl
      apply pu 7 (some 51) [8,2,2,2] rfl rfl (by kernel_rfl) (fun _ _ _ h=>h) (by rfl)
      ·intro w';go_simp;with_reducible rfl
      ·simp only [Act.put,List.setIfInBounds_toArray,List.set_cons_zero,List.set_cons_succ,i64_w];rfl
      apply pu 8 (some 59) [9,1,2,2] rfl rfl (by kernel_rfl) (fun _ _ _ h=>h) (by rfl)
      ·intro w';go_simp;with_reducible rfl
      ·simp only [Act.put,List.setIfInBounds_toArray,List.set_cons_zero,List.set_cons_succ,i64_w];rfl
      apply pu 9 (some 60) [12,2] rfl rfl (by kernel_rfl) (fun _ _ _ h=>h) (by rfl)
      ·intro w';go_simp;with_reducible rfl
      ·simp only [Act.put,List.setIfInBounds_toArray,List.set_cons_zero,List.set_cons_succ,i64_w];rfl
      exact norm_ (by simp only [putAll,Act.put,List.setIfInBounds_toArray,List.set_cons_zero,List.set_cons_succ]) (hCont ((v1,v5,v6),ga,gb) _ ⟨HX.out,HV.out,HP.out,HQ.out⟩)
   ·rintro ⟨⟨v1,v5,v6⟩,ga,gb⟩ W ⟨hX,hV,hP,hQ⟩
    dsimp only at hX hV hP hQ ⊢
    obtain ⟨⟨B1,k1,rfl⟩,⟨B5,k5,rfl⟩,⟨B6,k6,rfl⟩⟩:=hV.sl
    refine norm_ (by simp only [putAll,Act.put,List.setIfInBounds_toArray,List.set_cons_zero,List.set_cons_succ];rfl) ?_
    clear HX
    obtain ⟨hpa,hP⟩:=hP
    obtain ⟨hqa,hQ⟩:=hQ
    have hne:ga≠gb:=fun e=>by rw [e,hQ] at hP;simp at hP
    obtain ⟨⟨z0,z1⟩,y0,y1⟩:=cells2 hP
    obtain ⟨t1,t2⟩:=st2 hP (.int .i64 a.1)
    refine one_ (i:=12) (N:=none) (TG [13,1]) rfl rfl (by kernel_rfl) (by decide) (fun K hK=>?_)
    refine skip_ (w1:=?_) (by rfl) rfl ?_ ?_
    rotate_left
    ·go_simp
     rfl
    obtain ⟨hP1,ho,hb⟩:=put2 hP (.int .i64 a.1) (.slice B1 a.2.1.length k1)
    replace hX:=hX.only hpa ho (hb w)
    replace hV:=hV.only hP (by decide) (by decide) ho
    replace hQ:=(ho gb hne.symm).trans hQ
    generalize (W.setCell ⟨ga,0,none⟩ (.int .i64 a.1)).setCell ⟨ga,1,none⟩ (.slice B1 a.2.1.length k1)=W1 at hP1 hX hV hQ ⊢
    clear ho hb hP z0 z1 y0 y1 t1 t2
    refine hK.out _ _ hX (fun hHeld=>?_)
    clear hK K
    obtain ⟨⟨z0,z1,z2,z3,z4⟩,yf⟩:=cells5 hQ
    have y0:=yf 0
    obtain ⟨t1,u1,t2,u2,t3,u3,t4,u4⟩:=st5 hQ (.int .i64 a.2.2.1) (.int .i64 a.2.2.2.1) (.int .i64 a.2.2.2.2.1) (.slice B5 a.2.2.2.2.2.1.length k5)
    refine one_ (i:=13) (N:=none) (TG [14]) rfl rfl (by kernel_rfl) (by decide) (fun K hK=>?_)
    refine skip_ (w1:=?_) (by rfl) rfl ?_ ?_
    rotate_left
    ·go_simp
     rfl
    obtain ⟨hQ1,ho,hb⟩:=put5 hQ (.int .i64 a.2.2.1) (.int .i64 a.2.2.2.1) (.int .i64 a.2.2.2.2.1) (.slice B5 a.2.2.2.2.2.1.length k5) (.slice B6 a.2.2.2.2.2.2.length k6)
    replace hX:=hX.only hqa ho (hb w)
    replace hV:=hV.only hQ (by decide) (by decide) ho
    replace hP1:=(ho ga hne).trans hP1
    generalize ((((W1.setCell ⟨gb,0,none⟩ (.int .i64 a.2.2.1)).setCell ⟨gb,1,none⟩ (.int .i64 a.2.2.2.1)).setCell ⟨gb,2,none⟩ (.int .i64 a.2.2.2.2.1)).setCell ⟨gb,3,none⟩ (.slice B5 a.2.2.2.2.2.1.length k5)).setCell ⟨gb,4,none⟩ (.slice B6 a.2.2.2.2.2.2.length k6)=W2 at hP1 hX hV hQ1 ⊢
    clear ho hb hQ z0 z1 z2 z3 z4 y0 t1 t2 t3 t4 u1 u2 u3 u4 yf hHeld
    refine hK.out _ _ hX (fun hHeld=>?_)
    clear hK K hHeld
    refine done_ (by kernel_rfl) ?_
    obtain ⟨x0,x1,x2,x3,x4,x5,x6,x7,x8,x9⟩:=HC.out W2 hX.bel
    have HX:=Aside0.mk hX
    have HV:=Aside0.mk hV
    have HP:=Aside0.mk hP1
    have HQ:=Aside0.mk hQ1
    clear hX hV hP1 hQ1
    cases h2:idleB x<;>simp only [h2] at HNo
    ·skip
     go_wp2_with (first|(go_at_call 23;(with_reducible refine (HNo.out _).mono ?_);rintro e w4 ⟨rfl,hb⟩;replace HX:=Aside0.mk (HX.out.below hb);replace HV:=Aside0.mk (HV.out.below hb);replace HP:=Aside0.mk (blk_below HP.out hb);replace HQ:=Aside0.mk (blk_below HQ.out hb);clear hb x0 x1 x2 x3 x4 x5 x6 x7 x8 x9))
     refine start_ (n:=10) (S:=fun w'=>w'.heap[ga]? =some (.cells #[.int .i64 a.1,(.slice B1 a.2.1.length k1)] 33 (0,0))∧w'.heap[gb]? =some (.cells #[.int .i64 a.2.2.1, .int .i64 a.2.2.2.1, .int .i64 a.2.2.2.2.1,(.slice B5 a.2.2.2.2.2.1.length k5),(.slice B6 a.2.2.2.2.2.2.length k6)] 39 (0,0))∧Below w.heap.size w w') (ds:=[]) (TG [0,10]) (by kernel_rfl) rfl rfl ⟨HP.out,HQ.out,below_drew HX.out.bel⟩ (fun hHeld=>?_)
     replace HX:=Aside0.mk HX.out.drew
     replace HV:=Aside0.mk (HV.out.below (below_drew (Below.refl _ _)))
     replace HP:=Aside0.mk (show w4.drew.heap[ga]? =_ from HP.out)
     replace HQ:=Aside0.mk (show w4.drew.heap[gb]? =_ from HQ.out)
     generalize w4.drew=w5 at HX HV HP HQ hHeld ⊢
     apply pu 2 (some 72) [0,2,1,7] rfl rfl (by kernel_rfl) (fun _ _ _ h=>h) (by rfl)
     ·intro w';go_simp;with_reducible rfl
     ·simp only [Act.put,List.setIfInBounds_toArray,List.set_cons_zero,List.set_cons_succ,i64_w];rfl
     apply pu 3 (some 73) [0,2,2,6] rfl rfl (by kernel_rfl) (fun _ _ _ h=>h) (by rfl)
     ·intro w';go_simp;with_reducible rfl
     ·simp only [Act.put,List.setIfInBounds_toArray,List.set_cons_zero,List.set_cons_succ,i64_w];rfl
     apply pu 4 (some 74) [0,2,3,5] rfl rfl (by kernel_rfl) (fun _ _ _ h=>h) (by rfl)
     ·intro w';go_simp;with_reducible rfl
     ·simp only [Act.put,List.setIfInBounds_toArray,List.set_cons_zero,List.set_cons_succ,i64_w];rfl
     apply pu 5 (some 75) [0,2,4,4] rfl rfl (by kernel_rfl) (fun _ _ _ h=>h) (by rfl)
     ·intro w';go_simp;with_reducible rfl
     ·simp only [Act.put,List.setIfInBounds_toArray,List.set_cons_zero,List.set_cons_succ,i64_w];rfl
     apply tk 0 (some 70) [1,1,4,4] rfl rfl (by kernel_rfl) (fun _ _ _ h=>h) hHeld (by rfl)
     ·intro w' hS;obtain ⟨⟨z0,z1⟩, -⟩:=cells2 hS.1;obtain ⟨⟨z2,z3,z4,z5,z6⟩, -⟩:=cells5 hS.2.1;obtain ⟨x0,x1,x2,x3,x4,x5,x6,x7,x8,x9⟩:=HC.out w' hS.2.2;go_simp;with_reducible rfl
     ·simp only [Act.put,List.setIfInBounds_toArray,List.set_cons_zero,List.set_cons_succ,i64_w];rfl
     apply tk 1 (some 71) [6,4] rfl rfl (by kernel_rfl) (fun _ _ _ h=>h) hHeld (by rfl)
     ·intro w' hS;obtain ⟨⟨z0,z1⟩, -⟩:=cells2 hS.1;obtain ⟨⟨z2,z3,z4,z5,z6⟩, -⟩:=cells5 hS.2.1;obtain ⟨x0,x1,x2,x3,x4,x5,x6,x7,x8,x9⟩:=HC.out w' hS.2.2;go_simp;with_reducible rfl
     ·simp only [Act.put,List.setIfInBounds_toArray,List.set_cons_zero,List.set_cons_succ,i64_w];rfl
     apply tk 6 (some 76) [7,3] rfl rfl (by kernel_rfl) (fun _ _ _ h=>h) hHeld (by rfl)
     ·intro w' hS;obtain ⟨⟨z0,z1⟩, -⟩:=cells2 hS.1;obtain ⟨⟨z2,z3,z4,z5,z6⟩, -⟩:=cells5 hS.2.1;obtain ⟨x0,x1,x2,x3,x4,x5,x6,x7,x8,x9⟩:=HC.out w' hS.2.2;go_simp;with_reducible rfl
     ·simp only [Act.put,List.setIfInBounds_toArray,List.set_cons_zero,List.set_cons_succ,i64_w];rfl
     have HV5:=Aside0.mk (Kd.R_reads' HV.out.2.1).2.2
     refine one_ (i:=7) (N:=some 77) (TG [8,2]) rfl rfl (by kernel_rfl) (by decide) (fun K hK=>?_)
     refine goes_ Tryd.func19 (by kernel_rfl) rfl #[.agg #[.int .i64 a.2.2.1, .int .i64 a.2.2.2.1, .int .i64 a.2.2.2.2.1, .slice B5 a.2.2.2.2.2.1.length k5,(.slice B6 a.2.2.2.2.2.2.length k6)], .agg #[.int .i64 x.f3.f0, .int .i64 x.f3.f1, .int .i64 x.f3.f2, .slice A8 x.f3.f3.length c8, .slice A9 x.f3.f4.length c9]] (by rfl) rfl rfl (by simp only [List.map_toArray,List.map_cons,List.map_nil];rfl) ?_
     with_reducible refine (same19_calls a.2.2.1 a.2.2.2.1 a.2.2.2.2.1 B5 k5 a.2.2.2.2.2.1 (.slice B6 a.2.2.2.2.2.2.length k6) x.f3.f0 x.f3.f1 x.f3.f2 A8 c8 x.f3.f3 (.slice A9 x.f3.f4.length c9) w5 HV5.out (Kd.C_below HC8.out HX.out.bel)).mono ?_
     rintro e w6 ⟨rfl,hb⟩
     refine ⟨_,rfl,?_⟩
     replace HX:=Aside0.mk (HX.out.below hb)
     replace HV:=Aside0.mk (HV.out.below hb)
     replace HP:=Aside0.mk (blk_below HP.out hb)
     replace HQ:=Aside0.mk (blk_below HQ.out hb)
     clear hb
     refine hK.out _ _ ⟨HP.out,HQ.out,HX.out.bel⟩ (fun hHeld=>?_)
     clear hK K
     refine norm_ (a':=?_) ?_ ?_
     rotate_left
     ·show Act.put _ (some 77) _=_
      simp only [Act.put,List.setIfInBounds_toArray,List.set_cons_zero,List.set_cons_succ,i64_w];rfl
     have q2:=HX.out.at_ 1 _ _ rfl
     obtain ⟨⟨d0,d1⟩,e0,e1⟩:=cells2 q2
     obtain ⟨t1,t2⟩:=st2 q2 (.int .i64 a.1)
     refine one_ (i:=8) (N:=none) (TG [9,1]) rfl rfl (by kernel_rfl) (by decide) (fun K hK=>?_)
     refine skip_ (w1:=?_) (by rfl) rfl ?_ ?_
     rotate_left
     ·go_simp
      rfl
     obtain ⟨hR,ho,hb⟩:=put2 q2 (.int .i64 a.1) (.slice B1 a.2.1.length k1)
     have HR:=Aside0.mk hR
     replace HV:=Aside0.mk (HV.out.only q2 (by decide) (by decide) ho)
     replace HP:=Aside0.mk ((ho ga (by omega)).trans HP.out)
     replace HQ:=Aside0.mk ((ho gb (by omega)).trans HQ.out)
     have HB:=Aside0.mk (hb w HX.out.bel (Nat.le_succ _))
     generalize (w6.setCell ⟨w.heap.size+1,0,none⟩ (.int .i64 a.1)).setCell ⟨w.heap.size+1,1,none⟩ (.slice B1 a.2.1.length k1)=W9 at HR HV HP HQ HB ⊢
     clear hR ho hb q2 d0 d1 e0 e1 t1 t2
     refine hK.out _ _ ⟨HP.out,HQ.out,HB.out⟩ (fun hHeld=>?_)
     clear hK K
     apply pu 9 (some 9) [10] rfl rfl (by kernel_rfl) (fun _ _ _ h=>h) (by rfl)
     ·intro w';go_simp;with_reducible rfl
     ·simp only [Act.put,List.setIfInBounds_toArray,List.set_cons_zero,List.set_cons_succ,i64_w];rfl
     refine done_ (by kernel_rfl) ?_
     go_wp2_with fail
     refine bodyPost_ret (v:= .tuple #[.agg #[.int .i64 a.1,(.slice B1 a.2.1.length k1)], .bool (sameB a.2.2.1 a.2.2.2.1 a.2.2.2.2.1 a.2.2.2.2.2.1 x.f3.f0 x.f3.f1 x.f3.f2 x.f3.f3)]) ?_ rfl ?_
     ·obtain ⟨⟨s0,s1⟩, -⟩:=cells2 HR.out
      simp [results,Tryd.results28,go_sem,s0,s1]
     ·rw [HO.out]
      exact ⟨_,by rw [show saysB x a=(sameB a.2.2.1 a.2.2.2.1 a.2.2.2.2.1 a.2.2.2.2.2.1 x.f3.f0 x.f3.f1 x.f3.f2 x.f3.f3) by unfold saysB;rw [if_neg (by rw [h2];decide)]];try rfl,HV.out.1,HB.out⟩
    ·skip
     go_wp2_with (first|(go_at_call 23;(with_reducible refine (HNo.out _).mono ?_);rintro e w4 ⟨rfl,hb⟩;replace HX:=Aside0.mk (HX.out.below hb);replace HV:=Aside0.mk (HV.out.below hb);replace HP:=Aside0.mk (blk_below HP.out hb);replace HQ:=Aside0.mk (blk_below HQ.out hb);clear hb x0 x1 x2 x3 x4 x5 x6 x7 x8 x9))
     refine start_ (n:=6) (S:=fun w'=>w'.heap[ga]? =some (.cells #[.int .i64 a.1,(.slice B1 a.2.1.length k1)] 33 (0,0))∧w'.heap[gb]? =some (.cells #[.int .i64 a.2.2.1, .int .i64 a.2.2.2.1, .int .i64 a.2.2.2.2.1,(.slice B5 a.2.2.2.2.2.1.length k5),(.slice B6 a.2.2.2.2.2.2.length k6)] 39 (0,0))∧Below w.heap.size w w') (ds:=[]) (TG [0,6]) (by kernel_rfl) rfl rfl ⟨HP.out,HQ.out,below_drew HX.out.bel⟩ (fun hHeld=>?_)
     replace HX:=Aside0.mk HX.out.drew
     replace HV:=Aside0.mk (HV.out.below (below_drew (Below.refl _ _)))
     replace HP:=Aside0.mk (show w4.drew.heap[ga]? =_ from HP.out)
     replace HQ:=Aside0.mk (show w4.drew.heap[gb]? =_ from HQ.out)
     generalize w4.drew=w5 at HX HV HP HQ hHeld ⊢
     apply pu 1 (some 67) [0,1,1,4] rfl rfl (by kernel_rfl) (fun _ _ _ h=>h) (by rfl)
     ·intro w';go_simp;with_reducible rfl
     ·simp only [Act.put,List.setIfInBounds_toArray,List.set_cons_zero,List.set_cons_succ,i64_w];rfl
     apply tk 0 (some 66) [2,4] rfl rfl (by kernel_rfl) (fun _ _ _ h=>h) hHeld (by rfl)
     ·intro w' hS;obtain ⟨⟨z0,z1⟩, -⟩:=cells2 hS.1;obtain ⟨⟨z2,z3,z4,z5,z6⟩, -⟩:=cells5 hS.2.1;go_simp;with_reducible rfl
     ·simp only [Act.put,List.setIfInBounds_toArray,List.set_cons_zero,List.set_cons_succ,i64_w];rfl
     apply tk 2 (some 68) [3,3] rfl rfl (by kernel_rfl) (fun _ _ _ h=>h) hHeld (by rfl)
     ·intro w' hS;obtain ⟨⟨z0,z1⟩, -⟩:=cells2 hS.1;obtain ⟨⟨z2,z3,z4,z5,z6⟩, -⟩:=cells5 hS.2.1;go_simp;with_reducible rfl
     ·simp only [Act.put,List.setIfInBounds_toArray,List.set_cons_zero,List.set_cons_succ,i64_w];rfl
     apply pu 3 (some 69) [4,2] rfl rfl (by kernel_rfl) (fun _ _ _ h=>h) (by rfl)
     ·intro w';go_simp;with_reducible rfl
     ·simp only [Act.put,List.setIfInBounds_toArray,List.set_cons_zero,List.set_cons_succ,i64_w];rfl
     have q2:=HX.out.at_ 1 _ _ rfl
     obtain ⟨⟨d0,d1⟩,e0,e1⟩:=cells2 q2
     obtain ⟨t1,t2⟩:=st2 q2 (.int .i64 a.1)
     refine one_ (i:=4) (N:=none) (TG [5,1]) rfl rfl (by kernel_rfl) (by decide) (fun K hK=>?_)
     refine skip_ (w1:=?_) (by rfl) rfl ?_ ?_
     rotate_left
     ·go_simp
      rfl
     obtain ⟨hR,ho,hb⟩:=put2 q2 (.int .i64 a.1) (.slice B1 a.2.1.length k1)
     have HR:=Aside0.mk hR
     replace HV:=Aside0.mk (HV.out.only q2 (by decide) (by decide) ho)
     replace HP:=Aside0.mk ((ho ga (by omega)).trans HP.out)
     replace HQ:=Aside0.mk ((ho gb (by omega)).trans HQ.out)
     have HB:=Aside0.mk (hb w HX.out.bel (Nat.le_succ _))
     generalize (w5.setCell ⟨w.heap.size+1,0,none⟩ (.int .i64 a.1)).setCell ⟨w.heap.size+1,1,none⟩ (.slice B1 a.2.1.length k1)=W9 at HR HV HP HQ HB ⊢
     clear hR ho hb q2 d0 d1 e0 e1 t1 t2
     refine hK.out _ _ ⟨HP.out,HQ.out,HB.out⟩ (fun hHeld=>?_)
     clear hK K
     apply pu 5 (some 9) [6] rfl rfl (by kernel_rfl) (fun _ _ _ h=>h) (by rfl)
     ·intro w';go_simp;with_reducible rfl
     ·simp only [Act.put,List.setIfInBounds_toArray,List.set_cons_zero,List.set_cons_succ,i64_w];rfl
     refine done_ (by kernel_rfl) ?_
     go_wp2_with fail
     refine bodyPost_ret (v:= .tuple #[.agg #[.int .i64 a.1,(.slice B1 a.2.1.length k1)], .bool (a.2.2.1 == 0)]) ?_ rfl ?_
     ·obtain ⟨⟨s0,s1⟩, -⟩:=cells2 HR.out
      simp [results,Tryd.results28,go_sem,s0,s1]
     ·rw [HO.out]
      exact ⟨_,by rw [show saysB x a=(a.2.2.1 == 0) by unfold saysB;rw [if_pos h2]];try rfl,HV.out.1,HB.out⟩
end Go.Proofs.YthejnffhfmdpnaaDoor.Q

end

section
namespace Go.Proofs.YthejnffhfmdpnaaDoor.Q
open Go.RowKit Go.Proofs.YthejnffhfmdpnaaDoorW.PrintWords Go.Proofs.YthejnffhfmdpnaaDoorW.PrintLast Go.Proofs.YthejnffhfmdpnaaDoorW.PrintMore
set_option linter.unusedVariables false
set_option linter.unusedSimpArgs false
def kraw (n:Nat):Kd (List Value) where
 sz:=n
 E:=[]
 K _ x cs:=cs=x∧x.length=n∧ ∀u ∈ x,u.oneCell'=true
 M _ _ _ x cs:=cs=x∧x.length=n∧ ∀u ∈ x,u.oneCell'=true
 K_len h:=by rw [h.1];exact h.2.1
 K_one h:=by rw [h.1];exact h.2.2
 K_below _ h:=h
 K_of_M h:=h
 M_mono _ h:=h
 M_bound h:=h
 M_move _ h:=h
 M_lower _ h:=h
theorem raws_of {w:World} {A:Option Addr} {l:List S45} (h:Kd.C k45 w A l.length l): ∃raws:List (List Value),raws.length=l.length∧Kd.C (kraw 10) w A l.length raws∧ ∀(j:Nat) (p:S45),l[j]? =some p→ ∃c,raws[j]? =some c∧k45.K w p c:=by
 by_cases hn:0 < l.length
 ·obtain ⟨ad,e,hc⟩:=h.2.2 hn
  have H: ∀j:Fin l.length, ∃c:List Value,c.length=10∧k45.K w l[j] c∧ ∀i u,c[i]? =some u→w.cell? (ad.add (j*10+i))=some u:=fun j=>hc j _ (List.getElem?_eq_getElem j.2)
  refine ⟨List.ofFn (fun j=>Classical.choose (H j)),by simp,⟨by simp,h.2.1,fun _=>⟨ad,e,fun j p hj=>?_⟩⟩,fun j p hj=>?_⟩
  ·have hj2:j < l.length:=by
    have:=(List.getElem?_eq_some_iff.1 hj).1
    simpa using this
   rw [List.getElem?_eq_getElem (by simpa using hj2),List.getElem_ofFn] at hj
   obtain rfl:=Option.some.inj hj
   have S:=Classical.choose_spec (H ⟨j,hj2⟩)
   exact ⟨_,S.1,⟨rfl,S.1,fun u hu=>k45.K_one S.2.1 u hu⟩,S.2.2⟩
  ·have hj2:j < l.length:=(List.getElem?_eq_some_iff.1 hj).1
   rw [List.getElem?_eq_getElem hj2] at hj
   obtain rfl:=Option.some.inj hj
   exact ⟨_,by rw [List.getElem?_eq_getElem (by simpa using hj2),List.getElem_ofFn],(Classical.choose_spec (H ⟨j,hj2⟩)).2.1⟩
 ·obtain rfl:l= []:=List.length_eq_zero_iff.mp (by omega)
  exact ⟨[],rfl,⟨rfl,h.2.1,fun h=>absurd h (by decide)⟩,fun j p hj=>by simp at hj⟩
def Cloned (w:World) (n:Nat) (raws:List (List Value)) (e:Ending) (w':World):Prop:= ∃v cells,e= .returned v∧w'.ownsRow w.heap.size 45 10 v n cells∧(∀(j:Nat) (p:List Value),raws[j]? =some p→(cells.drop (j*10)).take 10=p)∧Below w.heap.size w w'
set_option maxHeartbeats 8000000 in
set_option maxRecDepth 100000 in
theorem clone_calls (A0:Option Addr) (c0:Nat) (raws:List (List Value)) (w:World) (hr0:Kd.C (kraw 10) w A0 raws.length raws) (hn:raws.length≤1000000000000):
  Calls Tryd.prog 53 #[.slice A0 raws.length c0] w (Cloned w raws.length raws):=by
 have HR0:=Aside0.mk hr0
 have HN:=Aside0.mk hn
 cases A0 with
 |none=>
  have hl:raws= []:=by
   by_cases hq:0 < raws.length
   ·obtain ⟨ad,e,_⟩:=hr0.2.2 hq
    exact absurd e (by simp)
   ·exact List.length_eq_zero_iff.mp (by omega)
  subst hl
  clear hr0 hn
  have hnil: ∀(w:World) (n:Nat),(binOp .eql 22 (.slice none n c0) (.slice none 0 0)).run Tryd.prog w= .ok (.bool true) w:=fun w n=>Lib.run_eql_slice_nil (P:=Tryd.prog) w 22 45 none n c0 0 0 Tryd.underlying22
  go_enter Tryd.func53,Tryd.ntmps53
  go_wp2
  go_ret
  exact ⟨_,[],rfl,World.ownsRow_nil _ _ _ _,fun j p hj=>by simp at hj,Below.refl _ _⟩
 |some ad=>
  clear hr0 hn
  have hnil: ∀(w:World) (n:Nat),(binOp .eql 22 (.slice (some ad) n c0) (.slice none 0 0)).run Tryd.prog w= .ok (.bool false) w:=fun w n=>Lib.run_eql_slice_nil (P:=Tryd.prog) w 22 45 (some ad) n c0 0 0 Tryd.underlying22
  go_enter Tryd.func53,Tryd.ntmps53
  go_wp2_with (first|((with_reducible refine gate_dst (N:=5) rfl ?_);refine Kd.R_lit (kraw 10) (w0:=w) w.heap.size 45 ?hg (N:=5) ?hd (xs:=([]:List (List Value))) (inner:=[]) (ok:=fun _=>True) (okp:=fun _=>True) ?hr ?hp (fun _ hk=>hk) trivial (Below.refl _ _) (Nat.le_refl _) (by simp) ?_;(case hd=>rfl);(case hg=>rfl);(case hr=>first|(go_simp;done)|(go_simp;rfl));(case hp=>exact Reps.none _ _);intro va W1 g0 hb hg_ hnew_;have HG:=Aside0.mk g0;have HB:=Aside0.mk hb;clear g0 hb hg_ hnew_)|((with_reducible refine gate_builtin (b:= .append) (xs:=#[.tmp 5, .tmp 6]) rfl ?_);at_builtin;refine Kd.R_append_rows (kraw 10) (w0:=w) w.heap.size rfl (.tmp 5) (.tmp 6) 22 45 (.agg #[(.int .i64 0),(.int .i64 0),(.int .i64 0),(.int .i64 0),(.slice none 0 0),(.int .i64 0),(.int .i64 0),(.int .i64 0),(.slice none 0 0),(.slice none 0 0)]) 128 rfl Tryd.underlying22 info45 rfl (show 0 < 10 by omega) (by omega) va [] raws (some ad) raws.length c0 (fun _=>True) (fun _=>False) rfl rfl HG.out (Kd.C_below HR0.out HB.out) (fun _ _ h=>h) (fun _ h=>h.elim) (fun _ _=>trivial) HB.out HB.out.size (by have:=HN.out;simp;omega) ?_;intro vb W2 ho hb hg hat;rw [List.nil_append] at ho;have HO:=Aside0.mk ho;have HB2:=Aside0.mk hb;clear ho hb hg hat))
  go_ret
  obtain ⟨cells,h1,h2⟩:=HO.out.2
  exact ⟨vb,cells,rfl,h1,fun j p hj=>(h2.2 j p hj).1,HB2.out⟩
def strip (x:S45):S45:=⟨x.f0,x.f1,x.f2,⟨x.f3.f0,x.f3.f1,x.f3.f2,x.f3.f3,[]⟩⟩
theorem strip_K {w:World} {x:S45} {c:List Value} (h:k45.K w x c):k45.K w (strip x) (c.set 9 (.slice none 0 0)):=by
 obtain ⟨A4,c4,A8,c8,A9,c9,rfl,l4,g4,l8,g8,l9,g9⟩:=k45_open h
 exact k45_mk w (strip x) l4 g4 l8 g8 (A9:=none) (c9:=0) (Nat.le_refl _) ⟨rfl,(show 0≤9223372036854775807 by decide),fun h=>absurd h (show ¬0 < 0 by decide)⟩
theorem own_slice {w:World} {base e size n:Nat} {v:Value} {xs:List Value} (h:w.ownsRow base e size v n xs): ∃A c,v= .slice A n c∧n≤c:=by
 rcases h.2 with ⟨rfl,rfl⟩|⟨g,cap,cur,rfl,_,_,hc,_⟩
 ·exact ⟨none,0,rfl,Nat.le_refl _⟩
 ·exact ⟨_,_,rfl,hc⟩
theorem own_head {w:World} {base e size n c:Nat} {A:Option Addr} {xs:List Value} (h:w.ownsRow base e size (.slice A n c) n xs) (hn:0 < n): ∃g,A=some ⟨g,0,none⟩∧base≤g:=by
 rcases h.2 with ⟨_,h2⟩|⟨g,cap,cur,h1,hb,_⟩
 ·omega
 ·injection h1 with h1 _ _
  exact ⟨g,h1,hb⟩
theorem addz (g m:Nat):(⟨g,0,none⟩:Addr).add m=⟨g,m,none⟩:=by unfold Addr.add;split<;>simp_all
def Gone (raws:List (List Value)) (i:Nat) (xs:List Value):Prop:= ∀(j:Nat) (p:List Value),raws[j]? =some p→ ∀(m:Nat) (u:Value),m < 10→p[m]? =some u→xs[j*10+m]? =if j < i∧m=9 then some (.slice none 0 0) else some u
theorem Gone.next {raws:List (List Value)} {i:Nat} {xs:List Value} (h:Gone raws i xs) (hl:i*10+9 < xs.length):Gone raws (i+1) (xs.set (i*10+9) (.slice none 0 0)):=by
 intro j p hj m u hm hu
 have:=h j p hj m u hm hu
 rw [List.getElem?_set]
 by_cases hq:i*10+9=j*10+m
 ·have h1:j=i:=by omega
  have h2:m=9:=by omega
  rw [if_pos hq,if_pos hl,if_pos ⟨by omega,h2⟩]
 ·rw [if_neg hq,this]
  by_cases h1:j < i∧m=9
  ·rw [if_pos h1,if_pos ⟨by omega,h1.2⟩]
  ·rw [if_neg h1,if_neg (by omega)]
def FreeRel (w:World) (A:Option Addr) (c n:Nat) (raws:List (List Value)) (i:Nat) (wr:World):Prop:= ∃xs,wr.ownsRow w.heap.size 45 10 (.slice A n c) n xs∧Gone raws i xs∧Below w.heap.size w wr
def CRow (w0 W:World) (v:Value) (l:List S45):Prop:= ∃raws:List (List Value),raws.length=l.length∧(kraw 10).R 45 W w0.heap.size (fun _=>True) v raws∧ ∀(j:Nat) (p:S45),l[j]? =some p→ ∃c,raws[j]? =some c∧k45.K w0 p c
theorem CRow.C {w0 W:World} {A:Option Addr} {n c:Nat} {l:List S45} (h:CRow w0 W (.slice A n c) l) (hb:Below w0.heap.size w0 W):n=l.length∧n≤c∧Kd.C k45 W A l.length l:=by
 obtain ⟨raws,hl,hR,hK⟩:=h
 obtain ⟨h1,h2,h3⟩:=Kd.R_reads' hR
 rw [hl] at h1 h3
 refine ⟨h1,h2,rfl,h3.2.1,fun hn=>?_⟩
 obtain ⟨ad,e,hc⟩:=h3.2.2 hn
 refine ⟨ad,e,fun j p hj=>?_⟩
 obtain ⟨cs,hr,hk⟩:=hK j p hj
 obtain ⟨cs',hlen,⟨he,_⟩,hcell⟩:=hc j cs hr
 subst he
 exact ⟨cs',hlen,k45.K_below hb hk,hcell⟩
theorem CRow.map_ {w0 W W1:World} {v:Value} {l:List S45} (h:CRow w0 W v l) (f: ∀raws,(kraw 10).R 45 W w0.heap.size (fun _=>True) v raws→(kraw 10).R 45 W1 w0.heap.size (fun _=>True) v raws):CRow w0 W1 v l:=by
 obtain ⟨raws,hl,hR,hK⟩:=h
 exact ⟨raws,hl,f raws hR,hK⟩
theorem CRow.below {w0 W W1:World} {v:Value} {l:List S45} (h:CRow w0 W v l) (hb:Below W.heap.size W W1):CRow w0 W1 v l:=h.map_ (fun _ hR=>Kd.R_below hR hb)
theorem CRow.set {w0 W:World} {v:Value} {l:List S45} (h:CRow w0 W v l) {g t:Nat} {cells:Array Value} (hb:W.heap[g]? =some (.cells cells t (0,0))) (ht:t≠45) (j:Nat) (u:Value):CRow w0 (W.setCell ⟨g,j,none⟩ u) v l:=
 h.map_ (fun _ hR=>Kd.R_set hR hb (fun q hq=>by
  have:q=45:=by simpa [kraw] using hq
  omega) j u)
def FreePost (w0 w:World) (n:Nat) (l:List S45) (e:Ending) (w':World):Prop:= ∃A c,e= .returned (.slice A n c)∧n≤c∧CRow w0 w' (.slice A n c) l∧Below w.heap.size w w'
theorem FreeRel.done {w0 w wr:World} (hle:w0.heap.size≤w.heap.size) {A:Option Addr} {c:Nat} {raws:List (List Value)} {l:List S45} (hl:raws.length=l.length) (hm:l.length≤9223372036854775807) (hK: ∀(j:Nat) (p:S45),l[j]? =some p→ ∃c,raws[j]? =some c∧k45.K w0 p c) (h:FreeRel w A c l.length raws l.length wr):CRow w0 wr (.slice A l.length c) (l.map strip):=by
 obtain ⟨xs,ho,hg,hb⟩:=h
 have hxl:=ho.1
 refine ⟨raws.map (fun c=>c.set 9 (.slice none 0 0)),by simp [hl],Kd.R_lower (d:=kraw 10) (e:=45) (w:=wr) (base:=w.heap.size) (base':=w0.heap.size) ⟨fun _ _=>trivial,xs,by rw [List.length_map,hl];exact ho,by rw [List.length_map,hl];exact hxl,fun j p hj=>?_⟩ hle,fun j p hj=>?_⟩
 ·rw [List.getElem?_map,Option.map_eq_some_iff] at hj
  obtain ⟨cs,hr,rfl⟩:=hj
  have hjl:j < l.length:=by
   have:=(List.getElem?_eq_some_iff.1 hr).1
   omega
  obtain ⟨cs',hr',hk⟩:=hK j l[j] (List.getElem?_eq_getElem hjl)
  rw [hr] at hr'
  obtain rfl:=Option.some.inj hr'
  have hlen:cs.length=10:=k45.K_len hk
  refine ⟨?_,by rw [List.length_set,hlen],fun u hu=>?_⟩
  ·apply List.ext_getElem?
   intro m
   rw [List.getElem?_take,List.getElem?_set]
   by_cases hm:m < 10
   ·rw [if_pos (show m < (kraw 10).sz from hm),List.getElem?_drop]
    have hc:cs[m]? =some cs[m]:=List.getElem?_eq_getElem (by omega)
    rw [show (kraw 10).sz=10 from rfl,hg j cs hr m _ hm hc]
    by_cases h9:m=9
    ·subst h9
     rw [if_pos ⟨hjl,rfl⟩,if_pos rfl,if_pos (by omega)]
    ·rw [if_neg (by omega),if_neg (by omega),hc]
   ·rw [if_neg (show ¬m < (kraw 10).sz from hm),if_neg (by omega),List.getElem?_eq_none (by omega)]
  ·rcases List.mem_or_eq_of_mem_set hu with h|rfl
   ·exact k45.K_one hk u h
   ·rfl
 ·rw [List.getElem?_map,Option.map_eq_some_iff] at hj
  obtain ⟨x,hx,rfl⟩:=hj
  obtain ⟨cs,hr,hk⟩:=hK j x hx
  exact ⟨_,by rw [List.getElem?_map,hr];rfl,strip_K hk⟩
set_option maxHeartbeats 8000000 in
set_option maxRecDepth 100000 in
theorem efree_calls (A0:Option Addr) (c0:Nat) (l:List S45) (w0 w:World) (hr0:Kd.C k45 w0 A0 l.length l) (hb0:Below w0.heap.size w0 w) (hn:l.length≤1000000000000):
  Calls Tryd.prog 36 #[.slice A0 l.length c0] w (FreePost w0 w l.length (l.map strip)):=by
 obtain ⟨raws,hl,hC,hK⟩:=raws_of hr0
 replace hC:=Kd.C_below hC hb0
 have HLe:=Aside0.mk hb0.size
 rw [← hl] at hC
 have HC:=Aside0.mk (clone_calls A0 c0 raws w hC (by omega))
 rw [hl] at HC
 have HK:=Aside0.mk hK
 have HL:=Aside0.mk hl
 have HM:=Aside0.mk hr0.2.1
 have HN2:=Aside0.mk hn
 clear hr0 hC hK hl hn hb0
 go_enter Tryd.func36,Tryd.ntmps36
 go_wp2_with (first|(go_at_call 53;(with_reducible refine HC.out.mono ?_);rintro e w1 ⟨v,cells,rfl,ho,hs,hb⟩;obtain ⟨A,c,rfl,hc⟩:=own_slice ho;have HO:=Aside0.mk ho;have HS:=Aside0.mk hs;have HB:=Aside0.mk hb;have HCc:=Aside0.mk hc;clear ho hs hb hc))
 have hlm:=HN2.out
 have HS0:=Aside0.mk (show FreeRel w A c l.length raws 0 w1 from ⟨cells,HO.out,fun j p hj m u hm hu=>by
  rw [if_neg (by omega), ← hu, ← HS.out j p hj,List.getElem?_take,if_pos hm,List.getElem?_drop],HB.out⟩)
 clear HO HS HB
 go_loopg [9] (l.length+1) (fun gq v9 wr=> ∃i:Nat,v9= .int .i64 i∧Aside0 (i≤l.length∧gq+i=l.length+1)∧Aside0 (FreeRel w A c l.length raws i wr))
 case atStart=>exact ⟨0,rfl,⟨by omega⟩,HS0⟩
 case round=>
  clear HS0
  obtain ⟨i,rfl,HG,HR⟩:=hrel
  by_cases hlt:i < l.length
  ·have ltb:decide ((i:Int) < (l.length:Int))=true:=decide_eq_true (by omega)
   have ltc:decide (i < l.length)=true:=decide_eq_true hlt
   obtain ⟨xs,ho,hg,hb⟩:=HR.out
   obtain ⟨g,rfl,hge⟩:=own_head ho (by omega)
   have hxl:=ho.1
   obtain ⟨u9,y9⟩: ∃u,wr.cell? ⟨g,i*10+9,none⟩=some u:=⟨_,(ho.cellAt (i*10+9) (by omega)).trans (List.getElem?_eq_getElem (by omega))⟩
   have f9:=ho.frozenAt (i*10+9)
   have p200:=eq_true (show (0:Int)≤(i:Int) by omega)
   have q200:=eq_true (show (i:Int) < (l.length:Int) by omega)
   have HR1:=Aside0.mk (show FreeRel w (some ⟨g,0,none⟩) c l.length raws (i+1) (wr.setCell ⟨g,i*10+9,none⟩ (.slice none 0 0)) from ⟨_,(ho.stored (i*10+9) (.slice none 0 0)).1,hg.next (by omega),hb.setCell hge _⟩)
   clear ho hg hb hge hxl
   go_wp2
   go_roundg (l.length - i)
   case measure=>have:=HG.out.2;omega
   case rel=>exact ⟨i+1,by go_num,⟨by have:=HG.out;omega⟩,HR1⟩
  ·have ltb:decide ((i:Int) < (l.length:Int))=false:=decide_eq_false (by omega)
   have ltc:decide (i < l.length)=false:=decide_eq_false hlt
   have hi:i=l.length:=by have:=HG.out.1;omega
   subst hi
   have HP:=Aside0.mk (HR.out.done HLe.out HL.out HM.out HK.out)
   have HBB:=Aside0.mk (show Below w.heap.size w wr from HR.out.elim fun _ h=>h.2.2)
   go_wp2
   go_ret
   exact ⟨A,c,rfl,HCc.out,HP.out,HBB.out⟩
end Go.Proofs.YthejnffhfmdpnaaDoor.Q

end

section
namespace Go.Proofs.YthejnffhfmdpnaaDoor.Q
open Go.RowKit Go.Proofs.YthejnffhfmdpnaaDoorW.PrintWords Go.Proofs.YthejnffhfmdpnaaDoorW.PrintLast Go.Proofs.YthejnffhfmdpnaaDoorW.PrintMore
set_option linter.unusedVariables false
set_option linter.unusedSimpArgs false
def Fnd (wB:World) (g:Nat) (A0:Option Addr) (c0:Nat) (l:List S45) (v1:Value) (dn:List Bool) (left:Int) (v3:Value) (od:List Int) (W:World):Prop:=
 W.heap[g]? =some (.cells #[.slice A0 l.length c0,v1, .int .i64 left,v3] 76 (0,0))∧CRow wB W (.slice A0 l.length c0) l∧l.length≤c0∧Below wB.heap.size wB W∧wB.heap.size≤g∧Kd.R Kd.bool 4 W wB.heap.size (fun _=>True) v1 dn∧Kd.R (Kd.int .i64) 3 W wB.heap.size (fun _=>True) v3 od∧dn.length=l.length
section
variable {wB W W1:World} {g:Nat} {A0:Option Addr} {c0:Nat} {l:List S45} {v1:Value} {dn:List Bool} {left:Int} {v3:Value} {od:List Int}
theorem Fnd.below (h:Fnd wB g A0 c0 l v1 dn left v3 od W) (hb:Below W.heap.size W W1):Fnd wB g A0 c0 l v1 dn left v3 od W1:=
 ⟨blk_below h.1 hb,h.2.1.below hb,h.2.2.1,below_step h.2.2.2.1 hb,h.2.2.2.2.1,Kd.R_below h.2.2.2.2.2.1 hb,Kd.R_below h.2.2.2.2.2.2.1 hb,h.2.2.2.2.2.2.2⟩
theorem Fnd.fst {A1:Option Addr} {n c1:Nat} (h:Fnd wB g A0 c0 l (.slice A1 n c1) dn left v3 od W):Fst g A0 c0 l A1 c1 dn left v3 W:=by
 obtain ⟨hn,hc,hC⟩:=Kd.R_reads' h.2.2.2.2.2.1
 exact ⟨hn ▸ h.1,(h.2.1.C h.2.2.2.1).2.2,h.2.2.1,hC,hn ▸ hc⟩
theorem Fnd.max (h:Fnd wB g A0 c0 l v1 dn left v3 od W):l.length≤9223372036854775807:=(h.2.1.C h.2.2.2.1).2.2.2.1
theorem Fnd.cells (h:Fnd wB g A0 c0 l v1 dn left v3 od W):W.cell? ⟨g,0,none⟩=some (.slice A0 l.length c0)∧W.cell? ⟨g,1,none⟩=some v1∧W.cell? ⟨g,2,none⟩=some (.int .i64 left)∧W.cell? ⟨g,3,none⟩=some v3:=
 ⟨(blk_cell h.1 0).trans rfl,(blk_cell h.1 1).trans rfl,(blk_cell h.1 2).trans rfl,(blk_cell h.1 3).trans rfl⟩
def FS (g:Nat) (v1 v3:Value) (k:Nat):Prop:=k=g∨some k=v1.ownBlock∨some k=v3.ownBlock
theorem Fnd.not_S (h:Fnd wB g A0 c0 l v1 dn left v3 od W) {k t:Nat} {c:Array Value} (hk:W.heap[k]? =some (.cells c t (0,0))) (h1:t≠76) (h2:t≠4) (h3:t≠3): ¬FS g v1 v3 k:=by
 rintro (rfl|hq|hq)
 ·rw [h.1] at hk
  injection hk with hk
  injection hk with _ hk
  exact h1 hk.symm
 ·exact Kd.R_ne h.2.2.2.2.2.1 hk (fun e=>h2 e.symm) hq
 ·exact Kd.R_ne h.2.2.2.2.2.2.1 hk (fun e=>h3 e.symm) hq
theorem Fnd.keep_row (h:Fnd wB g A0 c0 l v1 dn left v3 od W) {α:Type} {d:Kd α} {e base:Nat} {ok:Nat→Prop} {v:Value} {xs:List α} (hR:d.R e W base ok v xs) (ht: ∀q,q ∈ e::d.E→q≠76∧q≠4∧q≠3) (hK:Kept W W1 (FS g v1 v3)):d.R e W1 base ok v xs:=by
 refine Kd.R_mono (Kd.R_step (Kd.R_bound hR) (fun k hk hlt=>?_)) (fun k hk=>hk.1)
 obtain ⟨_,_,_,q,hq,cells,hc⟩:=hk
 obtain ⟨a,b,c⟩:=ht q hq
 exact hK.2 k hlt (h.not_S hc a b c)
def Bs (L:List (Nat × Array Value × Nat)) (W:World):Prop:= ∀b c t,(b,c,t) ∈ L→W.heap[b]? =some (.cells c t (0,0))∧t≠76∧t≠4∧t≠3
theorem Bs.below {L:List (Nat × Array Value × Nat)} (h:Bs L W) (hb:Below W.heap.size W W1):Bs L W1:=fun b c t hm=>⟨blk_below (h b c t hm).1 hb,(h b c t hm).2⟩
theorem Bs.kept {L:List (Nat × Array Value × Nat)} (h:Bs L W) (hF:Fnd wB g A0 c0 l v1 dn left v3 od W) (hK:Kept W W1 (FS g v1 v3)):Bs L W1:=fun b c t hm=>by
 obtain ⟨h1,h2,h3,h4⟩:=h b c t hm
 exact ⟨(hK.2 b (blk_lt h1) (hF.not_S h1 h2 h3 h4)).trans h1,h2,h3,h4⟩
theorem Bs.nil (W:World):Bs [] W:=fun b c t hm=>by simp at hm
theorem Bs.cons {L:List (Nat × Array Value × Nat)} (h:Bs L W) (c:Array Value) (t:Nat) (h1:t≠76) (h2:t≠4) (h3:t≠3):Bs ((W.heap.size,c,t)::L) (W.alloc (.cells c t)):=fun b c' t' hm=>by
 rcases List.mem_cons.1 hm with he|hm
 ·obtain ⟨rfl,rfl,rfl⟩:=he
  exact ⟨blk_new W _,h1,h2,h3⟩
 ·exact ⟨blk_alloc (h b c' t' hm).1 _,(h b c' t' hm).2⟩
theorem Bs.cons2 {L:List (Nat × Array Value × Nat)} (h:Bs L W) (b:Nat) (hb:b=W.heap.size) (c:Array Value) (t:Nat) (h1:t≠76) (h2:t≠4) (h3:t≠3):Bs ((b,c,t)::L) (W.alloc (.cells c t)):=hb ▸ h.cons c t h1 h2 h3
theorem below_grown {W W1:World} (hg:W.grownBy W1 none):Below W.heap.size W W1:=⟨hg.os,hg.tape,hg.output,hg.size,fun k hk=>hg.block k hk (by simp)⟩
theorem grown_refl (W:World) (row:Option Nat):W.grownBy W row:=⟨rfl,rfl,rfl,Nat.le_refl _,fun _ _ _=>rfl⟩
theorem Bs.tail {L:List (Nat × Array Value × Nat)} {x:Nat × Array Value × Nat} (h:Bs (x::L) W):Bs L W:=fun b c t hm=>h b c t (List.mem_cons_of_mem _ hm)
theorem Bs.head {L:List (Nat × Array Value × Nat)} {b t:Nat} {c:Array Value} (h:Bs ((b,c,t)::L) W):W.heap[b]? =some (.cells c t (0,0)):=(h b c t List.mem_cons_self).1
theorem Fnd.setLeft (h:Fnd wB g A0 c0 l v1 dn left v3 od W) (n:Int):Fnd wB g A0 c0 l v1 dn n v3 od (W.setCell ⟨g,2,none⟩ (.int .i64 n)):=
 ⟨blk_put h.1 2 _ rfl,h.2.1.set h.1 (by decide) 2 _,h.2.2.1,below_set h.2.2.2.1 h.2.2.2.2.1,h.2.2.2.2.1,Kd.R_set h.2.2.2.2.2.1 h.1 (by decide) 2 _,Kd.R_set h.2.2.2.2.2.2.1 h.1 (by decide) 2 _,h.2.2.2.2.2.2.2⟩
theorem Fnd.head {A1:Option Addr} {n c1:Nat} (h:Fnd wB g A0 c0 l (.slice A1 n c1) dn left v3 od W) (hn:0 < l.length): ∃gd,A1=some ⟨gd,0,none⟩∧wB.heap.size≤gd:=by
 obtain ⟨inner,ho⟩:=Kd.R_own h.2.2.2.2.2.1
 rcases ho.2 with ⟨_,h2⟩|⟨gd,cap,cur,h1,hb,_⟩
 ·have:=h.2.2.2.2.2.2.2
  omega
 ·injection h1 with h1 _ _
  exact ⟨gd,h1,hb⟩
theorem Fnd.setDone {gd n c1:Nat} (h:Fnd wB g A0 c0 l (.slice (some ⟨gd,0,none⟩) n c1) dn left v3 od W) (i:Nat) (b:Bool) (hb:wB.heap.size≤gd):Fnd wB g A0 c0 l (.slice (some ⟨gd,0,none⟩) n c1) (dn.set i b) left v3 od (W.setCell ⟨gd,i,none⟩ (.bool b)):=by
 have hd:=Kd.R_putg (enc:=Value.bool) (h1:=fun _=>rfl) h.2.2.2.2.2.1 (i:Int) b
 rw [Int.toNat_natCast] at hd
 have hne:g≠gd:=fun e=>Kd.R_ne h.2.2.2.2.2.1 h.1 (by decide) (by rw [e];rfl)
 suffices hs:CRow wB (W.setCell ⟨gd,i,none⟩ (.bool b)) (.slice A0 l.length c0) l∧Kd.R (Kd.int .i64) 3 (W.setCell ⟨gd,i,none⟩ (.bool b)) wB.heap.size (fun _=>True) v3 od from ⟨blk_far h.1 hne _,hs.1,h.2.2.1,below_set h.2.2.2.1 hb,h.2.2.2.2.1,hd.1,hs.2,by rw [List.length_set];exact h.2.2.2.2.2.2.2⟩
 obtain ⟨inner,ho⟩:=Kd.R_own h.2.2.2.2.2.1
 rcases ho.2 with ⟨h2,_⟩|⟨gd',cap,cur,h1,_,hc,_⟩
 ·injection h2 with h2 _ _;exact absurd h2 (by simp)
 ·injection h1 with h1 _ _
  injection h1 with h1
  injection h1 with h1
  subst h1
  exact ⟨h.2.1.set hc (by decide) i _,Kd.R_set h.2.2.2.2.2.2.1 hc (by decide) i _⟩
theorem Fnd.setOrd (h:Fnd wB g A0 c0 l v1 dn left v3 od W) {v3':Value} {od':List Int} (hg:W.grownBy W1 v3.ownBlock) (hb:Below wB.heap.size wB W1) (ho:Kd.R (Kd.int .i64) 3 W1 wB.heap.size (fun _=>True) v3' od'):Fnd wB g A0 c0 l v1 dn left v3' od' (W1.setCell ⟨g,3,none⟩ v3'):=by
 have h1:=blk_grown h.1 hg (Kd.R_ne h.2.2.2.2.2.2.1 h.1 (by decide))
 have hC:CRow wB W1 (.slice A0 l.length c0) l:=h.2.1.map_ (fun raws hR=>by
  refine Kd.R_mono (Kd.R_step (Kd.R_bound hR) (fun k hk hlt=>?_)) (fun k hk=>hk.1)
  obtain ⟨_,_,_,q,hq,cells,hc⟩:=hk
  have hq4:q=45:=by simpa [kraw] using hq
  subst hq4
  exact hg.block k hlt (Kd.R_ne h.2.2.2.2.2.2.1 hc (by decide)))
 refine ⟨blk_put h1 3 _ rfl,hC.set h1 (by decide) 3 _,h.2.2.1,below_set hb h.2.2.2.2.1,h.2.2.2.2.1,Kd.R_set ?_ h1 (by decide) 3 _,Kd.R_set ho h1 (by decide) 3 _,h.2.2.2.2.2.2.2⟩
 refine Kd.R_mono (Kd.R_step (Kd.R_bound h.2.2.2.2.2.1) (fun k hk hlt=>?_)) (fun k hk=>hk.1)
 obtain ⟨_,_,_,q,hq,cells,hc⟩:=hk
 have hq4:q=4:=by simpa [Kd.bool,Kd.scalar] using hq
 subst hq4
 exact hg.block k hlt (Kd.R_ne h.2.2.2.2.2.2.1 hc (by decide))
end
end Go.Proofs.YthejnffhfmdpnaaDoor.Q

end

section
namespace Go.Proofs.YthejnffhfmdpnaaDoor.Q
open Go.RowKit Go.Proofs.YthejnffhfmdpnaaDoor.Spec Go.Proofs.YthejnffhfmdpnaaDoorW.PrintWords Go.Proofs.YthejnffhfmdpnaaDoorW.PrintLast Go.Proofs.YthejnffhfmdpnaaDoorW.PrintMore
set_option linter.unusedVariables false
set_option linter.unusedSimpArgs false
def holdsL (l:List S45):List Int→List Bool→Int→List ByteArray→Bool
 | [],dn,_,_=>overB l dn
 |i::is,dn,fl,tr=>if i < 0∨(l.length:Int)≤i∨rdOf false dn i=true then false else if (nextB l dn fl tr i.toNat).2.2=true then holdsL l is (dn.set i.toNat true) (nextB l dn fl tr i.toNat).1 (nextB l dn fl tr i.toNat).2.1 else false
def holdsB (l:List S45) (order:List Int):Bool:=if rightB l=true then holdsL l order (List.replicate l.length false) 0 [] else false
def Small (l:List S45):Prop:= ∀x ∈ l,x.f2.f2.length≤1000
def HSt (w:World) (t g6:Nat) (v5:Value) (dn:List Bool) (fl:Int) (At:Option Addr) (ct:Nat) (tr:List ByteArray) (W:World):Prop:=
 Below w.heap.size w W∧W.heap[g6]? =some (.cells #[.int .i64 fl, .slice At tr.length ct] t (0,0))∧w.heap.size≤g6∧Kd.R Kd.bool 4 W w.heap.size (fun _=>True) v5 dn∧Kd.R Kd.string 9 W w.heap.size (fun _=>True) (.slice At tr.length ct) tr
section
variable {w W W1:World} {t g6:Nat} {v5:Value} {dn:List Bool} {fl:Int} {At:Option Addr} {ct:Nat} {tr:List ByteArray}
theorem HSt.below (h:HSt w t g6 v5 dn fl At ct tr W) (hb:Below W.heap.size W W1):HSt w t g6 v5 dn fl At ct tr W1:=
 ⟨below_step h.1 hb,blk_below h.2.1 hb,h.2.2.1,Kd.R_below h.2.2.2.1 hb,Kd.R_below h.2.2.2.2 hb⟩
theorem HSt.farDone {gd n c1:Nat} (h:HSt w t g6 (.slice (some ⟨gd,0,none⟩) n c1) dn fl At ct tr W) {α:Type} {d:Kd α} {e base:Nat} {ok:Nat→Prop} {v:Value} {xs:List α} (hR:d.R e W base ok v xs) (ht: ∀q,q ∈ e::d.E→q≠4) (i:Nat) (u:Value):d.R e (W.setCell ⟨gd,i,none⟩ u) base ok v xs:=by
 obtain ⟨inner,ho⟩:=Kd.R_own h.2.2.2.1
 rcases ho.2 with ⟨h2,_⟩|⟨gd',cap,cur,h1,_,hc,_⟩
 ·injection h2 with h2 _ _;exact absurd h2 (by simp)
 ·injection h1 with h1 _ _
  injection h1 with h1
  injection h1 with h1
  subst h1
  exact Kd.R_set hR hc ht i u
theorem HSt.setDone {gd n c1:Nat} (h:HSt w t g6 (.slice (some ⟨gd,0,none⟩) n c1) dn fl At ct tr W) (ht:t≠4) (i:Nat) (b:Bool) (hb:w.heap.size≤gd):HSt w t g6 (.slice (some ⟨gd,0,none⟩) n c1) (dn.set i b) fl At ct tr (W.setCell ⟨gd,i,none⟩ (.bool b)):=by
 have hd:=Kd.R_putg (enc:=Value.bool) (h1:=fun _=>rfl) h.2.2.2.1 (i:Int) b
 rw [Int.toNat_natCast] at hd
 have hne:g6≠gd:=fun e=>Kd.R_ne h.2.2.2.1 h.2.1 ht.symm (by rw [e];rfl)
 exact ⟨below_set h.1 hb,blk_far h.2.1 hne _,h.2.2.1,hd.1,h.farDone h.2.2.2.2 (by decide) i _⟩
theorem HSt.setLog (h:HSt w t g6 v5 dn fl At ct tr W) (h4:t≠4) (h9:t≠9) {fl':Int} {B:Option Addr} {k:Nat} {tr':List ByteArray} (hv:Kd.R Kd.string 9 W w.heap.size (fun _=>True) (.slice B tr'.length k) tr'):HSt w t g6 v5 dn fl' B k tr' ((W.setCell ⟨g6,0,none⟩ (.int .i64 fl')).setCell ⟨g6,1,none⟩ (.slice B tr'.length k)):=by
 obtain ⟨hp,ho,hb⟩:=put2 h.2.1 (.int .i64 fl') (.slice B tr'.length k)
 have e4: ∀q,q ∈ 4::Kd.bool.E→q≠t:=fun q hq=>by
  obtain rfl:q=4:=by simpa [Kd.bool,Kd.scalar] using hq
  exact h4.symm
 have e9: ∀q,q ∈ 9::Kd.string.E→q≠t:=fun q hq=>by
  obtain rfl:q=9:=by simpa [Kd.string,Kd.scalar] using hq
  exact h9.symm
 exact ⟨hb w h.1 h.2.2.1,hp,h.2.2.1,Kd.R_mono (Kd.R_step (Kd.R_types h.2.2.2.1 h.2.1 e4) (fun k hk _=>ho k hk.2)) (fun _ hk=>hk.1),Kd.R_mono (Kd.R_step (Kd.R_types hv h.2.1 e9) (fun k hk _=>ho k hk.2)) (fun _ hk=>hk.1)⟩
theorem HSt.head {A1:Option Addr} {n c1:Nat} (h:HSt w t g6 (.slice A1 n c1) dn fl At ct tr W) (hn:0 < dn.length): ∃gd,A1=some ⟨gd,0,none⟩∧w.heap.size≤gd:=by
 obtain ⟨inner,ho⟩:=Kd.R_own h.2.2.2.1
 rcases ho.2 with ⟨_,h2⟩|⟨gd,cap,cur,h1,hb,_⟩
 ·omega
 ·injection h1 with h1 _ _
  exact ⟨gd,h1,hb⟩
end
theorem count_set: ∀(dn:List Bool) (j:Nat),dn[j]? =some false→(dn.set j true).count true=dn.count true+1
 | [],_,h=>by simp at h
 |b::dn,0,h=>by
  obtain rfl:b=false:=by simpa using h
  simp
 |b::dn,j+1,h=>by
  have:=count_set dn j (by simpa using h)
  rw [List.set_cons_succ,List.count_cons,List.count_cons,this]
  omega
theorem rd_false {dn:List Bool} {j:Nat} (hj:j < dn.length) (h:rdOf false dn (j:Int)=false):dn[j]? =some false:=by
 unfold rdOf at h
 rw [Int.toNat_natCast,List.getD_eq_getElem?_getD,List.getElem?_eq_getElem hj,Option.getD_some] at h
 rw [List.getElem?_eq_getElem hj,h]
theorem rd_drop {order:List Int} {k:Nat} (hk:k < order.length):order.drop k=rdOf 0 order (k:Int)::order.drop (k+1):=by
 rw [List.drop_eq_getElem_cons hk]
 congr 1
 unfold rdOf
 rw [Int.toNat_natCast,List.getD_eq_getElem?_getD,List.getElem?_eq_getElem hk,Option.getD_some]
theorem doP_len1 (fl:Int) (tr:List ByteArray) (x:S45):(doE fl tr x).2.1.length≤tr.length+1:=(doP_len fl tr x.f2.f0 x.f2.f1 x.f2.f2).2.2
theorem nextB_len (l:List S45) (dn:List Bool) (fl:Int) (tr:List ByteArray) (i:Nat):(nextB l dn fl tr i).2.1.length≤tr.length+1:=by
 unfold nextB
 split
 ·exact doP_len1 _ _ _
 ·exact Nat.le_succ _
set_option maxHeartbeats 8000000 in
set_option maxRecDepth 100000 in
theorem holds13_calls (A0:Option Addr) (c0:Nat) (l:List S45) (A1:Option Addr) (c1:Nat) (order:List Int) (w:World) (hr0:Kd.C k45 w A0 l.length l) (hr1:Kd.C (Kd.int .i64) w A1 order.length order) (hs:Small l):
  Calls Tryd.prog 13 #[.slice A0 l.length c0, .slice A1 order.length c1] w fun e w'=>e= .returned (.bool (holdsB l order))∧Below w.heap.size w w':=by
 have HR0:=Aside0.mk hr0
 have HR1:=Aside0.mk hr1
 have HSm:=Aside0.mk hs
 have hlm:=hr0.2.1
 have hlm1:=hr1.2.1
 clear hr0 hr1 hs
 have HRt:=Aside0.mk (rightl_calls A0 c0 l w HR0.out)
 cases hb:rightB l with
 |false=>
  rw [hb] at HRt
  have HO:=Aside0.mk (show holdsB l order=false by unfold holdsB;rw [if_neg (by rw [hb];decide)])
  clear hb
  go_enter Tryd.func13,Tryd.ntmps13
  go_wp2_with (first|(go_at_call 21;(with_reducible refine HRt.out.mono ?_);rintro e w1 ⟨rfl,hb⟩;have HB:=Aside0.mk hb;clear hb))
  go_ret
  exact ⟨by rw [HO.out];rfl,HB.out⟩
 |true=>
  rw [hb] at HRt
  have HO:=Aside0.mk (show holdsB l order=holdsL l order (List.replicate l.length false) 0 [] by unfold holdsB;rw [if_pos hb])
  have hL:l.length≤256:=by unfold rightB at hb;rw [Bool.and_eq_true] at hb;exact of_decide_eq_true hb.1
  have HL:=Aside0.mk hL
  clear hb hL
  go_enter Tryd.func13,Tryd.ntmps13
  go_wp2_with (first|(go_at_call 21;(with_reducible refine HRt.out.mono ?_);rintro e w1 ⟨rfl,hb⟩;have HB:=Aside0.mk hb;clear hb)|((with_reducible refine gate_dst (N:=16) rfl ?_);refine Kd.R_make Kd.bool (w0:=w) w.heap.size 4 ?hw (N:=16) ?hd 56 (.tmp 15) (.tmp 15) ?ho (l.length:Int) ?hx ?hy Tryd.underlying56 (.bool false) 1 ?hi ?hz (by decide) (by decide) false (ok:=fun _=>True) (okp:=fun _=>True) ?hm (fun _ _=>trivial) trivial (by omega) ?hl HB.out HB.out.size ?_;(case hd=>rfl);(case ho=>rfl);(case hw=>rfl);(case hx=>rfl);(case hy=>rfl);(case hi=>kernel_rfl);(case hz=>rfl);(case hm=>rfl);(case hl=>have:=HL.out;rw [Int.toNat_natCast];omega);intro v1 W3 g1 hb hg hnew_;rw [Int.toNat_natCast] at g1;obtain ⟨A5,c5,rfl⟩:=Kd.R_slice g1;rw [List.length_replicate] at g1 ⊢;have HS:=Aside0.mk (show HSt w 33 W3.heap.size (.slice A5 l.length c5) (List.replicate l.length false) 0 none 0 [] (W3.alloc (.cells #[.int .i64 0, .slice none 0 0] 33)) from ⟨below_alloc hb _,blk_new W3 _,hb.size,Kd.R_alloc g1 _,Kd.R_nil _ _ _ _ _⟩);generalize hg6:W3.heap.size=g6 at HS;have HG6:=Aside0.mk hg6;clear g1 hb hg hnew_ hg6))
  rw [HG6.out]
  generalize W3.alloc (.cells #[.int .i64 0, .slice none 0 0] 33)=w0 at HS ⊢
  clear HG6 HB
  go_loopg [7] (order.length+1) (fun gq v7 wr=> ∃(k:Nat) (dn:List Bool) (fl:Int) (At:Option Addr) (ct:Nat) (tr:List ByteArray),v7= .int .i64 k∧Aside0 (k≤order.length∧gq+k=order.length+1)∧Aside0 (HSt w 33 g6 (.slice A5 l.length c5) dn fl At ct tr wr)∧Aside0 (holdsB l order=holdsL l (order.drop k) dn fl tr)∧Aside0 (dn.length=l.length∧tr.length≤dn.count true))
  case atStart=>exact ⟨0,List.replicate l.length false,0,none,0,[],rfl,⟨by omega⟩,HS,⟨by rw [HO.out,List.drop_zero]⟩,⟨by rw [List.length_replicate],Nat.zero_le _⟩⟩
  case round=>
   clear HS HO
   obtain ⟨k,dn,fl,At,ct,tr,rfl,HG,HS,HO,HN⟩:=hrel
   have hle:=HG.out.1
   obtain ⟨⟨z0,z1⟩,zf0,zf1⟩:=cells2 HS.out.2.1
   by_cases hlt:k < order.length
   ·have ltb:decide ((k:Int) < (order.length:Int))=true:=decide_eq_true (by omega)
    have ltc:decide (k < order.length)=true:=decide_eq_true hlt
    have p200:=eq_true (show (0:Int)≤(k:Int) by omega)
    have q200:=eq_true (show (k:Int) < (order.length:Int) by omega)
    obtain ⟨ad,ead,y0⟩:=Kd.at_int (Kd.C_below HR1.out HS.out.1) (k:Int) (by omega) (by omega)
    cases ead
    rw [Int.toNat_natCast] at y0
    have ho:=HO.out
    rw [rd_drop hlt] at ho
    change _=some (Value.int .i64 (rdOf 0 order (k:Int))) at y0
    generalize rdOf 0 order (k:Int)=i at y0 ho
    by_cases hi:i < 0∨(l.length:Int)≤i
    ·have HO2:=Aside0.mk (show holdsB l order=false by rw [ho,holdsL,if_pos (by omega)])
     clear ho
     have HB:=Aside0.mk HS.out.1
     cases h1:decide (i < 0)
     ·have h2:decide ((l.length:Int)≤i)=true:=decide_eq_true (by have:=of_decide_eq_false h1;omega)
      go_wp2_with fail
      go_ret
      exact ⟨by rw [HO2.out];rfl,HB.out⟩
     ·go_wp2_with fail
      go_ret
      exact ⟨by rw [HO2.out];rfl,HB.out⟩
    ·obtain ⟨j,rfl⟩: ∃j:Nat,i=(j:Int):=⟨i.toNat,by omega⟩
     have hj:j < l.length:=by omega
     have h1:decide ((j:Int) < 0)=false:=decide_eq_false (by omega)
     have h2:decide ((l.length:Int)≤(j:Int))=false:=decide_eq_false (by omega)
     have h2':decide (l.length≤j)=false:=decide_eq_false (by omega)
     have p201:=eq_true (show (0:Int)≤(j:Int) by omega)
     have q201:=eq_true (show (j:Int) < (l.length:Int) by omega)
     have hn:=HN.out
     obtain ⟨gd,rfl,hgd⟩:=HS.out.head (by omega)
     have hdC:=Kd.R_reads' HS.out.2.2.2.1
     rw [hn.1] at hdC
     obtain ⟨ad1,ead1,x0⟩:=Kd.at_bool hdC.2.2 (j:Int) (by omega) (by omega)
     cases ead1
     rw [Int.toNat_natCast,addz] at x0
     cases h3:rdOf false dn (j:Int)
     case true=>
      have HO2:=Aside0.mk (show holdsB l order=false by rw [ho,holdsL,if_pos (.inr (.inr h3))])
      rw [h3] at x0
      clear ho hn hdC
      have HB:=Aside0.mk HS.out.1
      go_wp2_with fail
      go_ret
      exact ⟨by rw [HO2.out];rfl,HB.out⟩
     have HD:=Aside0.mk hdC.2.2
     have HC:=Aside0.mk (count_set dn j (rd_false (by omega) h3))
     have hc:=List.count_le_length (a:=true) (l:=dn)
     have HT:=Aside0.mk (show tr.length < 1000000 by have:=HL.out;omega)
     have HJ:=Aside0.mk (And.intro hj hgd)
     have HNl:=Aside0.mk (nextB_len l dn fl tr j)
     have HO2:=Aside0.mk (show holdsB l order=if (nextB l dn fl tr j).2.2=true then holdsL l (order.drop (k+1)) (dn.set j true) (nextB l dn fl tr j).1 (nextB l dn fl tr j).2.1 else false by
      rw [ho,holdsL,if_neg (by rintro (h|h|h);omega;omega;rw [h3] at h;exact absurd h (by decide)),Int.toNat_natCast])
     have HCt:=Aside0.mk (Kd.R_reads' HS.out.2.2.2.2)
     have HB:=Aside0.mk HS.out.1
     rw [h3] at x0
     clear ho hn hdC h3 hc hi hgd
     obtain ⟨r,hr⟩: ∃r,r=nextB l dn fl tr j:=⟨_,rfl⟩
     have HNx:=Aside0.mk (next_calls A0 c0 l (some ⟨gd,0,none⟩) c5 dn fl At ct tr j wr (Kd.C_below HR0.out HB.out) HD.out HN.out.1 HCt.out.2.2 HCt.out.2.1 HT.out HSm.out HJ.out.1)
     rw [← hr] at HO2 HNl HNx
     clear hr
     obtain ⟨rf,rt,rb⟩:=r
     dsimp only at HO2 HNl
     have HNm:=Aside0.mk HNl.out
     cases rb
     ·have HO3:=Aside0.mk (show holdsB l order=false from HO2.out)
      go_wp2_with (first|(go_at_call 28;(with_reducible refine HNx.out.mono ?_);rintro e w1 ⟨v1,rfl,hv,hb⟩;obtain ⟨B1,k1,rfl⟩: ∃B k,v1= .slice B rt.length k:=hv.elim (fun h=>⟨At,ct,by rw [h.1,show tr=rt from h.2.symm]⟩) (fun h=>Kd.R_slice h);replace HB:=Aside0.mk (below_step HB.out hb);clear hv hb x0))
      go_ret
      exact ⟨by rw [HO3.out];rfl,below_alloc HB.out _⟩
     ·have HO3:=Aside0.mk (show holdsB l order=holdsL l (order.drop (k+1)) (dn.set j true) rf rt from HO2.out)
      go_wp2_with (first|(go_at_call 28;(with_reducible refine HNx.out.mono ?_);rintro e w1 ⟨v1,rfl,hv,hb⟩;obtain ⟨B1,k1,rfl⟩: ∃B k,v1= .slice B rt.length k:=hv.elim (fun h=>⟨At,ct,by rw [h.1,show tr=rt from h.2.symm]⟩) (fun h=>Kd.R_slice h);have hV:Kd.R Kd.string 9 w1 w.heap.size (fun _=>True) (.slice B1 rt.length k1) rt:=hv.elim (fun h=>by rw [h.1,show rt=tr from h.2];exact Kd.R_below HS.out.2.2.2.2 hb) (fun h=>Kd.R_lower h HB.out.size);have ha:=below_alloc hb (.cells #[.int .i64 rf, .slice B1 rt.length k1] 33);have HS1:=Aside0.mk (HS.out.below ha);have HX:=Aside0.mk (blk_new w1 (.cells #[.int .i64 rf, .slice B1 rt.length k1] 33));have HV:=Aside0.mk (Kd.R_alloc hV (.cells #[.int .i64 rf, .slice B1 rt.length k1] 33));have HG9:=Aside0.mk (show g6≠w1.heap.size from fun e=>by have:=blk_lt (blk_below HS.out.2.1 hb);omega);obtain ⟨d0,d1⟩:=Kd.R_celln (enc:=Value.bool) (h1:=fun _=>rfl) false HS1.out.2.2.2.1 (j:Int) (by omega) (by have:=HJ.out.1;omega);rw [Int.toNat_natCast] at d0 d1;have hS2:=HS1.out.setDone (by decide) j true HJ.out.2;have hg9:gd≠w1.heap.size:=fun e=>Kd.R_ne HS1.out.2.2.2.1 HX.out (by decide) (by rw [e];rfl);have q9:((w1.alloc (.cells #[.int .i64 rf, .slice B1 rt.length k1] 33)).setCell ⟨gd,j,none⟩ (.bool true)).heap[w1.heap.size]? =some (.cells #[.int .i64 rf, .slice B1 rt.length k1] 33 (0,0)):=blk_far HX.out hg9.symm _;obtain ⟨⟨m0,m1⟩, -⟩:=cells2 q9;obtain ⟨⟨l0,l1⟩,l2,l3⟩:=cells2 hS2.2.1;obtain ⟨t1,t2⟩:=st2 hS2.2.1 (.int .i64 rf);have HS2:=Aside0.mk hS2;clear hv hb ha hV x0 z0 z1 zf0 zf1 hS2 q9 hg9))
      have HS3:=Aside0.mk (HS2.out.setLog (by decide) (by decide) (fl':=rf) (HS1.out.farDone HV.out (by decide) j (.bool true)))
      go_roundg (order.length - k)
      case measure=>have:=HG.out.2;omega
      case rel=>exact ⟨k+1,dn.set j true,rf,B1,k1,rt,by go_num,⟨by have:=HG.out;omega⟩,HS3,⟨by rw [HO3.out]⟩,⟨by rw [List.length_set];exact HN.out.1,by have:=HNm.out;have:=HN.out.2;have:=HC.out;omega⟩⟩
   ·have ltb:decide ((k:Int) < (order.length:Int))=false:=decide_eq_false (by omega)
    have ltc:decide (k < order.length)=false:=decide_eq_false hlt
    have HOv:=Aside0.mk (show holdsB l order=overB l dn by rw [HO.out,List.drop_eq_nil_of_le (by omega),holdsL])
    have hdC:=Kd.R_reads' HS.out.2.2.2.1
    rw [HN.out.1] at hdC
    have HOc:=Aside0.mk (overl_calls A0 c0 l A5 c5 dn wr (Kd.C_below HR0.out HS.out.1) hdC.2.2 HN.out.1)
    have HB:=Aside0.mk HS.out.1
    clear hdC
    go_wp2_with (first|(go_at_call 29;(with_reducible refine HOc.out.mono ?_);rintro e w1 ⟨rfl,hb⟩;replace HB:=Aside0.mk (below_step HB.out hb);clear hb))
    go_ret
    exact ⟨by rw [HOv.out];rfl,HB.out⟩
end Go.Proofs.YthejnffhfmdpnaaDoor.Q

end
