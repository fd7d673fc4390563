/- Texts of this claim, in one file. -/
import Derived.BigRegion
import Derived.Test.YthejnffhfmdpnaaDoorME
section
namespace Go.Proofs.YthejnffhfmdpnaaDoor.Spec
set_option linter.unusedVariables false
open Go.RowKit Go.Proofs.YthejnffhfmdpnaaDoor.Q Go.Proofs.YthejnffhfmdpnaaDoorW.PrintWords Go.Proofs.YthejnffhfmdpnaaDoorW.PrintLast Go.Proofs.YthejnffhfmdpnaaDoorW.PrintMore
def fileR (s:ByteArray) (p:Nat):(S66 × Int) × Nat × Int:=
 let t:=rText s p 0 200
 let m:=rNum s t.2.1 t.2.2
 let z:=rCount s m.2.1 m.2.2 65536
 ((⟨t.1,m.1,⟨#[]⟩⟩,z.1),z.2.1,z.2.2)
def filesP (s:ByteArray):Nat→Nat→List (S66 × Int) × Nat × Int
 |0,p=>([],p,0)
 |d+1,p=>if (fileR s p).2.2=0 then ((fileR s p).1::(filesP s d (fileR s p).2.1).1,(filesP s d (fileR s p).2.1).2) else ([],(fileR s p).2)
def toldP (s:ByteArray):List (S66 × Int) × Nat × Int:=
 let c:=rCount s 0 0 256
 if c.2.2=0 then (let r:=filesP s c.1.toNat c.2.1;if r.2.2=0 then (if checkP (r.1.map (·.1))=0 then (r.1,r.2.1,0) else ([],0,checkP (r.1.map (·.1)))) else ([],0,r.2.2)) else ([],0,c.2.2)
def gatherP (s:ByteArray):List (S66 × Int)→Nat→List S66 × Int
 | [],p=>if p < s.size then ([],4) else ([],0)
 |x::t,p=>if x.2 > (s.size:Int) - (p:Int) then ([],3) else if (gatherP s t (p+x.2.toNat)).2=0 then (⟨x.1.f0,x.1.f1,s.extract p (p+x.2.toNat)⟩::(gatherP s t (p+x.2.toNat)).1,0) else ([],(gatherP s t (p+x.2.toNat)).2)
def treeP (s:ByteArray):List S66 × Int:=if (s.size:Int) > 524288 then ([],4) else if (toldP s).2.2=0 then gatherP s (toldP s).1 (toldP s).2.1 else ([],(toldP s).2.2)
theorem fileR_le (s:ByteArray) (p:Nat) (h:p≤s.size):(fileR s p).2.1≤s.size:=rCount_le _ _ _ _ (rNum_le _ _ _ (rText_le _ _ _ _ h))
theorem rCount_most (s:ByteArray) (p:Nat) (e most:Int) (h:(rCount s p e most).2.2=0):(rCount s p e most).1≤most:=by
 unfold rCount at h ⊢
 split
 next hc=>rw [if_pos hc] at h;simp at h
 next hc=>
  rw [if_neg hc] at h
  have: ¬((rNum s p e).1 > most):=fun hq=>hc ⟨h,hq⟩
  omega
theorem fileR_size (s:ByteArray) (p:Nat) (h:(fileR s p).2.2=0):0≤(fileR s p).1.2∧(fileR s p).1.2≤65536:=⟨(rCount_ge _ _ _ _).1,rCount_most _ _ _ _ h⟩
theorem filesP_sizes (s:ByteArray): ∀(d p:Nat), ∀x ∈ (filesP s d p).1,0≤x.2∧x.2≤65536
 |0,p=>by simp [filesP]
 |d+1,p=>by
  intro x hx
  rw [filesP] at hx
  split at hx
  next h=>
   rcases List.mem_cons.1 hx with rfl|hx
   ·exact fileR_size s p h
   ·exact filesP_sizes s d _ x hx
  next h=>simp at hx
theorem filesP_len (s:ByteArray): ∀(d p:Nat),(filesP s d p).1.length≤d
 |0,p=>by simp [filesP]
 |d+1,p=>by
  rw [filesP]
  split
  ·have:=filesP_len s d (fileR s p).2.1
   rw [List.length_cons]
   omega
  ·simp
theorem filesP_le (s:ByteArray): ∀(d p:Nat),p≤s.size→(filesP s d p).2.1≤s.size
 |0,p,h=>h
 |d+1,p,h=>by
  rw [filesP]
  split
  ·exact filesP_le s d _ (fileR_le s p h)
  ·exact fileR_le s p h
theorem toldP_sizes (s:ByteArray): ∀x ∈ (toldP s).1,0≤x.2∧x.2≤65536:=by
 unfold toldP
 dsimp only
 split
 ·split
  ·split
   ·exact filesP_sizes s _ _
   ·simp
  ·simp
 ·simp
theorem toldP_len (s:ByteArray):(toldP s).1.length≤256:=by
 unfold toldP
 dsimp only
 split
 next h0=>
  split
  ·split
   ·have:=filesP_len s (rCount s 0 0 256).1.toNat (rCount s 0 0 256).2.1
    have h1:=rCount_most s 0 0 256 h0
    have h2:=(rCount_ge s 0 0 256).1
    dsimp only
    omega
   ·simp
  ·simp
 ·simp
theorem toldP_le (s:ByteArray):(toldP s).2.1≤s.size:=by
 unfold toldP
 dsimp only
 split
 ·split
  ·split
   ·exact filesP_le s _ _ (rCount_le s 0 0 256 (Nat.zero_le _))
   ·exact Nat.zero_le _
  ·exact Nat.zero_le _
 ·exact Nat.zero_le _
def endC (fs:List S66) (zs:List Int) (r:List (S66 × Int) × Nat × Int):List S66 × List Int × Int × Int:=
 if r.2.2=0 then (if checkP (fs++r.1.map (·.1))=0 then (fs++r.1.map (·.1),zs++r.1.map (·.2),(r.2.1:Int),0) else ([],[],0,checkP (fs++r.1.map (·.1)))) else ([],[],0,r.2.2)
theorem codeHead_l0 (s:ByteArray) (hs:s.size≤524288) (d:Nat): ∀(k i p:Nat) (fs:List S66) (zs:List Int),p≤s.size→d+3000≤k→fs.length=i→zs.length=i→i+d≤256→
  image_head.l0 k s fs zs ((i+d:Nat):Int) (i:Int) s (p:Int) 0=some (endC fs zs (filesP s d p)):=by
 have hsm:Small s:=by unfold Small;omega
 induction d with
 |zero=>
  intro k i p fs zs hp hk hf hz hi
  obtain ⟨k,rfl⟩: ∃m,k=m+1:=⟨k - 1,by omega⟩
  rw [image_head.l0,if_neg (by omega)]
  simp only [code_Reader_Err.f,Option.bind_some,if_true]
  rw [codeCheck k fs (by omega) (by omega),Option.bind_some]
  simp only [code_Reader_Left.f,Option.bind_some]
  unfold endC filesP
  simp only [if_true,List.map_nil,List.append_nil]
  by_cases hc:checkP fs=0
  ·rw [if_pos hc,if_pos hc,w64 (n:=(s.size:Int) - (p:Int)) (by omega) (by omega),w64 (by omega) (by omega),show (s.size:Int) - ((s.size:Int) - (p:Int))=(p:Int) by omega]
  ·rw [if_neg hc,if_neg hc]
 |succ d ih=>
  intro k i p fs zs hp hk hf hz hi
  obtain ⟨k,rfl⟩: ∃m,k=m+1:=⟨k - 1,by omega⟩
  have h1:=rText_le s p 0 200 hp
  have h2:=rNum_le s (rText s p 0 200).2.1 (rText s p 0 200).2.2 h1
  rw [image_head.l0,if_pos (by omega),codeRText k s p 0 200 hsm hp (by omega)]
  simp only [Option.bind_some]
  rw [codeRNum k s _ _ hsm h1 (by omega)]
  simp only [Option.bind_some]
  rw [codeRCount k s _ _ 65536 hsm h2 (by omega)]
  simp only [Option.bind_some,code_Reader_Err.f]
  rw [filesP]
  by_cases he:(fileR s p).2.2=0
  ·rw [if_pos he,if_pos (show (rCount s (rNum s (rText s p 0 200).2.1 (rText s p 0 200).2.2).2.1 (rNum s (rText s p 0 200).2.1 (rText s p 0 200).2.2).2.2 65536).2.2=0 from he),if_pos (by omega),if_pos (by omega),w64 (by omega) (by omega),show (rCount s (rNum s (rText s p 0 200).2.1 (rText s p 0 200).2.2).2.1 (rNum s (rText s p 0 200).2.1 (rText s p 0 200).2.2).2.2 65536).2.2=0 from he,show (i:Int)+1=((i+1:Nat):Int) by omega,show i+(d+1)=(i+1)+d by omega]
   rw [show (rCount s (rNum s (rText s p 0 200).2.1 (rText s p 0 200).2.2).2.1 (rNum s (rText s p 0 200).2.1 (rText s p 0 200).2.2).2.2 65536).2.1=(fileR s p).2.1 from rfl]
   rw [ih k (i+1) (fileR s p).2.1 _ _ (fileR_le s p hp) (by omega) (by rw [List.length_append,List.length_singleton];omega) (by rw [List.length_append,List.length_singleton];omega) (by omega)]
   unfold endC
   simp only [List.map_cons,List.append_assoc,List.singleton_append]
   rfl
  ·rw [if_neg he,if_neg (show ¬(rCount s (rNum s (rText s p 0 200).2.1 (rText s p 0 200).2.2).2.1 (rNum s (rText s p 0 200).2.1 (rText s p 0 200).2.2).2.2 65536).2.2=0 from he)]
   unfold endC
   rw [if_neg he]
   rfl
theorem codeHead (k:Nat) (s:ByteArray) (hs:s.size≤524288) (hk:4000≤k):image_head.f k s=some ((toldP s).1.map (·.1),(toldP s).1.map (·.2),((toldP s).2.1:Int),(toldP s).2.2):=by
 have hsm:Small s:=by unfold Small;omega
 unfold image_head.f
 simp only [code_Read.f,Option.bind_some]
 have hc:=codeRCount k s 0 0 256 hsm (Nat.zero_le _) (by omega)
 rw [show ((0:Nat):Int)=0 from rfl] at hc
 rw [hc]
 simp only [Option.bind_some]
 have h2:=(rCount_ge s 0 0 256).1
 unfold toldP
 dsimp only
 by_cases h0:(rCount s 0 0 256).2.2=0
 ·have h1:=rCount_most s 0 0 256 h0
  have:=codeHead_l0 s hs (rCount s 0 0 256).1.toNat k 0 (rCount s 0 0 256).2.1 [] [] (rCount_le s 0 0 256 (Nat.zero_le _)) (by omega) rfl rfl (by omega)
  rw [Nat.zero_add,show (((rCount s 0 0 256).1.toNat:Nat):Int)=(rCount s 0 0 256).1 by omega,show ((0:Nat):Int)=0 from rfl] at this
  rw [h0,this,if_pos rfl]
  unfold endC
  simp only [List.nil_append]
  split
  ·split<;>rfl
  ·rfl
 ·obtain ⟨k,rfl⟩: ∃m,k=m+1:=⟨k - 1,by omega⟩
  rw [if_neg h0,rCount_zero s 0 0 256 h0,image_head.l0,if_neg (by omega)]
  simp only [code_Reader_Err.f,Option.bind_some]
  rw [if_neg h0]
  rfl
theorem gatherP_err (s:ByteArray): ∀(h:List (S66 × Int)) (p:Nat),(gatherP s h p).2≠0→(gatherP s h p).1= []
 | [],p,he=>by
  unfold gatherP at he ⊢
  split<;>rfl
 |x::t,p,he=>by
  unfold gatherP at he ⊢
  split
  ·rfl
  ·split
   next h1 h2=>rw [if_neg h1,if_pos h2] at he;exact absurd rfl he
   ·rfl
theorem rd_map (h:List (S66 × Int)) (i:Nat) (hi:i < h.length):rd (h.map (·.2)) (i:Int)=h[i].2:=by
 have:(h.map (·.2))[i]? =some h[i].2:=by rw [List.getElem?_map,List.getElem?_eq_getElem hi];rfl
 unfold rd
 rw [Int.toNat_natCast,List.getD_eq_getElem?_getD,this,Option.getD_some]
theorem codeTree_l0 (s:ByteArray) (hs:s.size≤524288) (h:List (S66 × Int)) (hl:h.length≤256) (hz: ∀x ∈ h,0≤x.2∧x.2≤65536) (n:Nat): ∀(k i p:Nat) (acc:List S66),i+n=h.length→n+1≤k→acc.length=i→p≤s.size→
  image_Tree.l0 k s (acc++(h.drop i).map (·.1)) (p:Int) (h.map (·.2)) (h.length:Int) (i:Int)=some (if (gatherP s (h.drop i) p).2=0 then (acc++(gatherP s (h.drop i) p).1,0) else ([],(gatherP s (h.drop i) p).2)):=by
 induction n with
 |zero=>
  intro k i p acc hi hk ha hp
  obtain ⟨k,rfl⟩: ∃m,k=m+1:=⟨k - 1,by omega⟩
  rw [image_Tree.l0,if_neg (by omega),List.drop_eq_nil_of_le (by omega),gatherP]
  by_cases hq:p < s.size
  ·rw [if_pos (by omega),if_pos hq];rfl
  ·rw [if_neg (by omega),if_neg hq];simp
 |succ n ih=>
  intro k i p acc hi hk ha hp
  obtain ⟨k,rfl⟩: ∃m,k=m+1:=⟨k - 1,by omega⟩
  have hil:i < h.length:=by omega
  have hx:=hz h[i] (List.getElem_mem _)
  rw [image_Tree.l0,if_pos (by omega),if_pos (by omega),if_pos (by rw [List.length_map];omega),rd_map h i hil,w64 (n:=(s.size:Int) - (p:Int)) (by omega) (by omega),w64 (n:=(p:Int)+h[i].2) (by omega) (by omega),w64 (n:=(i:Int)+1) (by omega) (by omega),List.drop_eq_getElem_cons hil,gatherP]
  by_cases hq:h[i].2 > (s.size:Int) - (p:Int)
  ·rw [if_pos hq,if_pos hq];rfl
  ·have hlen:(acc++List.map (·.1) (h[i]::h.drop (i+1))).length=h.length:=by simp;omega
   rw [if_neg hq,if_neg hq,if_pos (by omega),if_pos (by omega),if_pos (by omega),if_pos (by rw [hlen];omega),Int.toNat_natCast,show ((p:Int)+h[i].2).toNat=p+h[i].2.toNat by omega,Int.toNat_natCast,show (p:Int)+h[i].2=((p+h[i].2.toNat:Nat):Int) by omega,show (i:Int)+1=((i+1:Nat):Int) by omega]
   have e1:rd_T66 (acc++List.map (·.1) (h[i]::h.drop (i+1))) (i:Int)=h[i].1:=by
    rw [rd66_at _ i (by rw [hlen];exact hil)]
    simp [List.getElem_append_right,ha]
   have e2: ∀y:S66,(acc++List.map (·.1) (h[i]::h.drop (i+1))).set i y=(acc++[y])++(h.drop (i+1)).map (·.1):=by
    intro y
    rw [List.set_append,if_neg (by omega),ha,Nat.sub_self,List.map_cons,List.set_cons_zero,List.append_assoc]
    rfl
   rw [e1,e2,ih k (i+1) (p+h[i].2.toNat) _ (by omega) (by omega) (by rw [List.length_append,List.length_singleton];omega) (by omega)]
   by_cases hg:(gatherP s (h.drop (i+1)) (p+h[i].2.toNat)).2=0
   ·rw [if_pos hg,if_pos hg];simp
   ·rw [if_neg hg,if_neg hg,if_neg hg]
theorem codeTree (k:Nat) (s:ByteArray) (hk:4000≤k):image_Tree.f k s=some (treeP s):=by
 unfold image_Tree.f treeP
 by_cases h:(s.size:Int) > 524288
 ·rw [if_pos h,if_pos h]
 ·rw [if_neg h,if_neg h,codeHead k s (by omega) hk,Option.bind_some]
  dsimp only
  by_cases he:(toldP s).2.2=0
  ·rw [if_pos he,if_pos he,List.length_map]
   have:=codeTree_l0 s (by omega) (toldP s).1 (toldP_len s) (toldP_sizes s) (toldP s).1.length k 0 (toldP s).2.1 [] (by omega) (by have:=toldP_len s;omega) rfl (toldP_le s)
   rw [List.drop_zero,List.nil_append,List.nil_append] at this
   refine this.trans ?_
   split
   next hq=>rw [← hq]
   next hq=>rw [← gatherP_err s _ _ hq]
  ·rw [if_neg he,if_neg he]
def mk105 (x:S66 × Int):S105:=⟨x.1,x.2⟩
theorem rd105_at (l:List (S66 × Int)) (i:Nat) (hi:i < l.length):rd_T105 (l.map mk105) (i:Int)=mk105 l[i]:=by
 rw [rd_T105,Int.toNat_natCast,List.getD_eq_getElem?_getD,List.getElem?_map,List.getElem?_eq_getElem hi]
 rfl
theorem refTold_l1 (h:List (S66 × Int)) (hl:h.length≤256) (s:ByteArray) (p:Int) (n:Nat): ∀(k i:Nat),i+n=h.length→n+2600≤k→
  barqueref10_Told.l1 k ((h.take i).map (·.1)) (i:Int) s p 0 (h.map mk105) 0=some (if checkP (h.map (·.1))=0 then (h.map mk105,p,0) else ([],0,checkP (h.map (·.1)))):=by
 induction n with
 |zero=>
  intro k i hi hk
  obtain ⟨k,rfl⟩: ∃m,k=m+1:=⟨k - 1,by omega⟩
  rw [barqueref10_Told.l1,List.length_map,if_neg (by omega),List.take_of_length_le (by omega),refCheck k _ (by rw [List.length_map];omega) (by rw [List.length_map];omega),Option.bind_some]
  split<;>rfl
 |succ n ih=>
  intro k i hi hk
  obtain ⟨k,rfl⟩: ∃m,k=m+1:=⟨k - 1,by omega⟩
  have hil:i < h.length:=by omega
  rw [barqueref10_Told.l1,List.length_map,if_pos (by omega),if_pos (by omega),if_pos (by rw [List.length_map,List.length_take];omega),rd105_at h i hil,w64 (by omega) (by omega),show (i:Int)+1=((i+1:Nat):Int) by omega]
  have e:(h.take i).map (·.1)++[(⟨(mk105 h[i]).f0.f0,(mk105 h[i]).f0.f1,(mk105 h[i]).f0.f2⟩:S66)]=(h.take (i+1)).map (·.1):=by
   rw [List.take_succ_eq_append_getElem hil,List.map_append]
   rfl
  rw [e]
  exact ih k (i+1) (by omega) (by omega)
def endR (fs:List (S66 × Int)) (r:List (S66 × Int) × Nat × Int):List S105 × Int × Int:=
 if r.2.2=0 then (if checkP ((fs++r.1).map (·.1))=0 then ((fs++r.1).map mk105,(r.2.1:Int),0) else ([],0,checkP ((fs++r.1).map (·.1)))) else ([],0,r.2.2)
theorem refTold_l0 (s:ByteArray) (hs:s.size≤524288) (d:Nat): ∀(k i p:Nat) (fs:List (S66 × Int)),p≤s.size→2*d+4000≤k→fs.length=i→i+d≤256→
  barqueref10_Told.l0 k ((i+d:Nat):Int) (i:Int) s (p:Int) 0 (fs.map mk105) 0=some (endR fs (filesP s d p)):=by
 have hsm:Small s:=by unfold Small;omega
 induction d with
 |zero=>
  intro k i p fs hp hk hf hi
  obtain ⟨k,rfl⟩: ∃m,k=m+2:=⟨k - 2,by omega⟩
  rw [barqueref10_Told.l0,if_neg (by omega),barqueref10_Told.j1,if_neg (by decide),if_pos rfl]
  have:=refTold_l1 fs (by omega) s (p:Int) fs.length k 0 (by omega) (by omega)
  rw [List.take_zero] at this
  refine Eq.trans this ?_
  unfold endR filesP
  simp only [if_true,List.append_nil]
 |succ d ih=>
  intro k i p fs hp hk hf hi
  obtain ⟨k,rfl⟩: ∃m,k=m+2:=⟨k - 2,by omega⟩
  have h1:=rText_le s p 0 200 hp
  have h2:=rNum_le s (rText s p 0 200).2.1 (rText s p 0 200).2.2 h1
  rw [barqueref10_Told.l0,if_pos (by omega),barqueref10_Told.j1,if_pos (by rfl),refRText k s p 0 200 hsm hp (by omega)]
  simp only [Option.bind_some]
  rw [refRNum k s _ _ hsm h1 (by omega)]
  simp only [Option.bind_some]
  rw [refRCount k s _ _ 65536 hsm h2 (by omega)]
  simp only [Option.bind_some]
  rw [if_pos (by rw [List.length_map];omega),w64 (by omega) (by omega),show (i:Int)+1=((i+1:Nat):Int) by omega]
  have e:fs.map mk105++[(⟨(⟨(rText s p 0 200).1,(rNum s (rText s p 0 200).2.1 (rText s p 0 200).2.2).1,⟨#[]⟩⟩:S66),(rCount s (rNum s (rText s p 0 200).2.1 (rText s p 0 200).2.2).2.1 (rNum s (rText s p 0 200).2.1 (rText s p 0 200).2.2).2.2 65536).1⟩:S105)]=(fs++[(fileR s p).1]).map mk105:=by
   rw [List.map_append]
   rfl
  rw [e,show (rCount s (rNum s (rText s p 0 200).2.1 (rText s p 0 200).2.2).2.1 (rNum s (rText s p 0 200).2.1 (rText s p 0 200).2.2).2.2 65536).2.1=(fileR s p).2.1 from rfl,show (rCount s (rNum s (rText s p 0 200).2.1 (rText s p 0 200).2.2).2.1 (rNum s (rText s p 0 200).2.1 (rText s p 0 200).2.2).2.2 65536).2.2=(fileR s p).2.2 from rfl,filesP]
  by_cases he:(fileR s p).2.2=0
  ·rw [if_pos he,he,show i+(d+1)=(i+1)+d by omega,ih k (i+1) (fileR s p).2.1 _ (fileR_le s p hp) (by omega) (by rw [List.length_append,List.length_singleton];omega) (by omega)]
   unfold endR
   simp only [List.append_assoc,List.singleton_append]
  ·obtain ⟨k,rfl⟩: ∃m,k=m+2:=⟨k - 2,by omega⟩
   have hj:barqueref10_Told.l0 (k+2) ((i+(d+1):Nat):Int) ((i+1:Nat):Int) s ((fileR s p).2.1:Int) (fileR s p).2.2 ((fs++[(fileR s p).1]).map mk105) 0=barqueref10_Told.j1 (k+1) ((i+(d+1):Nat):Int) ((i+1:Nat):Int) false s ((fileR s p).2.1:Int) (fileR s p).2.2 ((fs++[(fileR s p).1]).map mk105) 0:=by
    rw [barqueref10_Told.l0,beq_eq_false_iff_ne.mpr he]
    split<;>rfl
   rw [if_neg he,hj,barqueref10_Told.j1,if_neg (by decide),if_neg he]
   unfold endR
   rw [if_neg he]
theorem refTold (k:Nat) (s:ByteArray) (hs:s.size≤524288) (hk:5000≤k):barqueref10_Told.f k s=some ((toldP s).1.map mk105,((toldP s).2.1:Int),(toldP s).2.2):=by
 have hsm:Small s:=by unfold Small;omega
 unfold barqueref10_Told.f
 have hc:=refRCount k s 0 0 256 hsm (Nat.zero_le _) (by omega)
 rw [show ((0:Nat):Int)=0 from rfl] at hc
 rw [hc]
 simp only [Option.bind_some]
 have h2:=(rCount_ge s 0 0 256).1
 unfold toldP
 dsimp only
 by_cases h0:(rCount s 0 0 256).2.2=0
 ·have h1:=rCount_most s 0 0 256 h0
  have:=refTold_l0 s hs (rCount s 0 0 256).1.toNat k 0 (rCount s 0 0 256).2.1 [] (rCount_le s 0 0 256 (Nat.zero_le _)) (by omega) rfl (by omega)
  rw [Nat.zero_add,show (((rCount s 0 0 256).1.toNat:Nat):Int)=(rCount s 0 0 256).1 by omega,show ((0:Nat):Int)=0 from rfl,List.map_nil] at this
  rw [h0,this,if_pos rfl]
  unfold endR
  simp only [List.nil_append]
  split
  ·split<;>rfl
  ·rfl
 ·obtain ⟨k,rfl⟩: ∃m,k=m+2:=⟨k - 2,by omega⟩
  rw [if_neg h0,rCount_zero s 0 0 256 h0,barqueref10_Told.l0,if_neg (by omega),barqueref10_Told.j1,if_neg (by decide),if_neg h0]
  rfl
theorem refTree_l0 (s:ByteArray) (hs:s.size≤524288) (h:List (S66 × Int)) (hl:h.length≤256) (hz: ∀x ∈ h,0≤x.2∧x.2≤65536) (at0:Int) (n:Nat): ∀(k i p:Nat) (acc:List S66),i+n=h.length→n+1≤k→acc.length=i→p≤s.size→
  barqueref10_Tree.l0 k s (p:Int) acc (i:Int) (h.map mk105) at0=some (if (gatherP s (h.drop i) p).2=0 then (acc++(gatherP s (h.drop i) p).1,0) else ([],(gatherP s (h.drop i) p).2)):=by
 induction n with
 |zero=>
  intro k i p acc hi hk ha hp
  obtain ⟨k,rfl⟩: ∃m,k=m+1:=⟨k - 1,by omega⟩
  rw [barqueref10_Tree.l0,List.length_map,if_neg (by omega),List.drop_eq_nil_of_le (by omega),gatherP]
  by_cases hq:p < s.size
  ·rw [if_pos (by omega),if_pos hq];rfl
  ·rw [if_neg (by omega),if_neg hq];simp
 |succ n ih=>
  intro k i p acc hi hk ha hp
  obtain ⟨k,rfl⟩: ∃m,k=m+1:=⟨k - 1,by omega⟩
  have hil:i < h.length:=by omega
  have hx:=hz h[i] (List.getElem_mem _)
  rw [barqueref10_Tree.l0,List.length_map,if_pos (by omega),if_pos (by omega),rd105_at h i hil,show (mk105 h[i]).f1=h[i].2 from rfl,show (mk105 h[i]).f0=h[i].1 from rfl,w64 (n:=(s.size:Int) - (p:Int)) (by omega) (by omega),w64 (n:=(p:Int)+h[i].2) (by omega) (by omega),w64 (n:=(i:Int)+1) (by omega) (by omega),List.drop_eq_getElem_cons hil,gatherP]
  by_cases hq:h[i].2 > (s.size:Int) - (p:Int)
  ·rw [if_pos hq,if_pos hq];rfl
  ·rw [if_neg hq,if_neg hq,if_pos (by omega),if_pos (by omega),if_pos (by omega),if_pos (by omega),show ((p:Int)+h[i].2).toNat=p+h[i].2.toNat by omega,Int.toNat_natCast,show (p:Int)+h[i].2=((p+h[i].2.toNat:Nat):Int) by omega,show (i:Int)+1=((i+1:Nat):Int) by omega]
   rw [ih k (i+1) (p+h[i].2.toNat) _ (by omega) (by omega) (by rw [List.length_append,List.length_singleton];omega) (by omega)]
   by_cases hg:(gatherP s (h.drop (i+1)) (p+h[i].2.toNat)).2=0
   ·rw [if_pos hg,if_pos hg];simp
   ·rw [if_neg hg,if_neg hg,if_neg hg]
theorem refTree (k:Nat) (s:ByteArray) (hk:5000≤k):barqueref10_Tree.f k s=some (treeP s):=by
 unfold barqueref10_Tree.f treeP
 by_cases h:(s.size:Int) > 524288
 ·rw [if_pos h,if_pos h]
 ·rw [if_neg h,if_neg h,refTold k s (by omega) hk,Option.bind_some]
  dsimp only
  by_cases he:(toldP s).2.2=0
  ·rw [if_pos he,if_pos he]
   have:=refTree_l0 s (by omega) (toldP s).1 (toldP_len s) (toldP_sizes s) ((toldP s).2.1:Int) (toldP s).1.length k 0 (toldP s).2.1 [] (by omega) (by have:=toldP_len s;omega) rfl (toldP_le s)
   rw [List.drop_zero,List.nil_append] at this
   refine Eq.trans this ?_
   split
   next hq=>rw [← hq]
   next hq=>rw [← gatherP_err s _ _ hq]
  ·rw [if_neg he,if_neg he]
end Go.Proofs.YthejnffhfmdpnaaDoor.Spec

end

section
namespace Go.Proofs.YthejnffhfmdpnaaDoor.Q
open Go.RowKit Go.Proofs.YthejnffhfmdpnaaDoorW.PrintWords Go.Proofs.YthejnffhfmdpnaaDoorW.PrintLast Go.Proofs.YthejnffhfmdpnaaDoorW.PrintMore
attribute [local go_sem] min2_int min_two
set_option linter.unusedVariables false
set_option linter.unusedSimpArgs false
def speech_restore.j0:Nat→Int→Bool→Int→List ByteArray→Option (Int × Int × Int × (List (S66)) × List ByteArray)
 |0,_,_,_,_=>none
 |k+1,x1,x7,x394000,x394001=>if x7=true then (some (18,0,0,([]:List (S66)),([]:List ByteArray))) else (if x1 < 0 then (some (8,0,0,([]:List (S66)),([]:List ByteArray))) else (if x1≥(x394001.length:Int) then (some (8,0,0,([]:List (S66)),([]:List ByteArray))) else (if 0≤x1 then (if x1 < (x394001.length:Int) then ((image_Tree.f k (rdOf ByteArray.empty x394001 x1)).bind fun bt396=>(some (0,x1,x394000,bt396.1,([]:List ByteArray)))) else (none)) else (none))))
def speech_restore.f (k:Nat) (a0_0:Int) (l0_1:List ByteArray) (a1:Int):Option (Int × Int × Int × (List (S66)) × List ByteArray):=if a1≥0 then (speech_restore.j0 k a1 (decide (a1 < a0_0)) a0_0 l0_1) else (speech_restore.j0 k a1 false a0_0 l0_1)
set_option maxHeartbeats 8000000 in
set_option maxRecDepth 100000 in
theorem speech_restore.calls (k:Nat) (a0_0:Int) (A0_1:Option Addr) (c0_1:Nat) (l0_1:List ByteArray) (a1:Int) (r1:Int) (r2:Int) (r3:Int) (r4:List (S66)) (r5:List ByteArray) (w:World) (hr0_1:Kd.C Kd.string w A0_1 l0_1.length l0_1) (hc0_1:l0_1.length≤c0_1) (h:speech_restore.f k a0_0 l0_1 a1=some (r1,r2,r3,r4,r5)):
  Calls Tryd.prog 34 #[.agg #[.int .i64 a0_0, .slice A0_1 l0_1.length c0_1], .int .i64 a1] w fun e w'=> ∃v3_ v4_:Value,e= .returned (.agg #[.int .i64 r1, .int .i64 r2, .int .i64 r3,v3_,v4_])∧Kd.R k66 66 w' w.heap.size (fun _=>True) v3_ r4∧Kd.R Kd.string 9 w' w.heap.size (fun _=>True) v4_ r5∧Below w.heap.size w w':=by
 have hu36:=Tryd.underlying36
 have hu39:=Tryd.underlying39
 have HR0_1:=Aside0.mk hr0_1
 have HC0_1:=Aside0.mk hc0_1
 clear hr0_1 hc0_1
 have HB:=Aside0.mk (Below.refl w.heap.size w)
 have H:(if a1≥0 then (speech_restore.j0 k a1 (decide (a1 < a0_0)) a0_0 l0_1) else (speech_restore.j0 k a1 false a0_0 l0_1))=some (r1,r2,r3,r4,r5):=h
 clear h
 have HC3:=Aside0.mk H
 clear H
 go_enter Tryd.func34,Tryd.ntmps34
 go_upto_region 1 with (first|((with_reducible refine gate_dst (N:=2) rfl ?_);(try (refine gate_guard (by rfl) ?_;dsimp only));refine box_event ?hg (N:=2) ?hd (cs:=#[.int .i64 a0_0, .slice A0_1 l0_1.length c0_1]) (t:=36) ?hr ?_;(case hd=>rfl);(case hg=>rfl);(case hr=>first|(go_simp;done)|(go_simp;rfl));intro gb393 hg w4 hbox hb;have n0_:=Aside0.mk (below_step (by repeat (first|(with_reducible first|exact HB.out|apply below_alloc|apply pw_below_drewN|apply below_drew1)|exact HB.out)) hb);have n1_:=Aside0.mk (hbox);have n2_:=Aside0.mk ((by rw [hg];exact (below_size (by repeat (first|(with_reducible first|exact HB.out|apply below_alloc|apply pw_below_drewN|apply below_drew1)|exact HB.out))):w.heap.size≤gb393));have n3_:=Aside0.mk ((by rw [hg];exact (below_size (by repeat (first|(with_reducible first|exact HB.out|apply below_alloc|apply pw_below_drewN|apply below_drew1)|exact HB.out))):w.heap.size≤gb393));clear HB;have HB:=n0_;have BK393:=n1_;have GW393:=n2_;have GE393:=n3_;clear n0_ n1_ n2_ n3_;clear hb hbox hg)|((with_reducible refine gate_dst (N:=4) rfl ?_);(try (refine gate_guard (by rfl) ?_;dsimp only));refine box_event ?hg (N:=4) ?hd (cs:=#[.int .i64 0, .int .i64 0, .int .i64 0, .slice none 0 0, .slice none 0 0]) (t:=39) ?hr ?_;(case hd=>rfl);(case hg=>rfl);(case hr=>first|(go_simp;done)|(go_simp;rfl));intro gb394 hg w5 hbox hb;have n0_:=Aside0.mk (blk_below (g:=gb393) (o:= .cells #[.int .i64 a0_0, .slice A0_1 l0_1.length c0_1] 36 (0,0)) (by (with_reducible repeat (first|refine blk_drewN ?_ _|refine blk_drew ?_|refine blk_alloc ?_ _));exact BK393.out) hb);have n1_:=Aside0.mk (below_step (by repeat (first|(with_reducible first|exact HB.out|apply below_alloc|apply pw_below_drewN|apply below_drew1|refine below_set ?_ GE393.out)|exact HB.out)) hb);have n2_:=Aside0.mk (hbox);have n3_:=Aside0.mk ((by rw [hg];exact (below_size (by repeat (first|(with_reducible first|exact HB.out|apply below_alloc|apply pw_below_drewN|apply below_drew1|refine below_set ?_ GE393.out)|exact HB.out))):w.heap.size≤gb394));have n4_:=Aside0.mk ((by rw [hg];exact (below_size (by repeat (first|(with_reducible first|exact HB.out|apply below_alloc|apply pw_below_drewN|apply below_drew1|refine below_set ?_ GE393.out)|exact HB.out))):w.heap.size≤gb394));have n5_:=Aside0.mk ((by rw [hg];exact Nat.ne_of_lt (blk_lt (g:=gb393) (o:= .cells #[.int .i64 a0_0, .slice A0_1 l0_1.length c0_1] 36 (0,0)) (by (with_reducible repeat (first|refine blk_drewN ?_ _|refine blk_drew ?_|refine blk_alloc ?_ _));exact BK393.out)):gb393≠gb394));have n6_:=Aside0.mk ((by rw [hg];exact Nat.ne_of_gt (blk_lt (g:=gb393) (o:= .cells #[.int .i64 a0_0, .slice A0_1 l0_1.length c0_1] 36 (0,0)) (by (with_reducible repeat (first|refine blk_drewN ?_ _|refine blk_drew ?_|refine blk_alloc ?_ _));exact BK393.out)):gb394≠gb393));clear BK393;clear HB;have BK393:=n0_;have HB:=n1_;have BK394:=n2_;have GW394:=n3_;have GE394:=n4_;have NB393_394:=n5_;have NB394_393:=n6_;clear n0_ n1_ n2_ n3_ n4_ n5_ n6_;clear hb hbox hg))
 (try simp only [Act.put,List.setIfInBounds_toArray,List.set_cons_zero,List.set_cons_succ])
 go_cut [7] (fun v7 wc=> ∃(kq:Nat) (x7_2:Bool),v7= .bool x7_2∧Aside0 (speech_restore.j0 kq a1 x7_2 a0_0 l0_1=some (r1,r2,r3,r4,r5))∧Aside0 (kq≤k)∧Aside0 (wc.heap[gb393]? =some (.cells #[.int .i64 a0_0,(.slice A0_1 l0_1.length c0_1)] 36 (0,0)))∧Aside0 (wc.heap[gb394]? =some (.cells #[.int .i64 0, .int .i64 0, .int .i64 0,(.slice none 0 0),(.slice none 0 0)] 39 (0,0)))∧Aside0 (Below w.heap.size w wc))
 case first=>
  have H:=HC3.out
  clear HC3
  by_cases c6:a1≥0
  ·rw [if_pos c6] at H
   have c6b0:decide (0≤a1)=true:=decide_eq_true c6
   clear c6
   (first|rw [c6b0]|(simp only [i64_w];rw [c6b0])|skip)
   have H':=Aside0.mk H
   clear H
   have hnb7:=NB393_394.out
   have hnc7:=NB394_393.out
   have hcz8_0:w5.cell? ⟨gb393,0,none⟩=some (.int .i64 a0_0):=(blk_cell BK393.out 0).trans rfl
   have hcz8_1:w5.cell? ⟨gb393,1,none⟩=some (.slice A0_1 l0_1.length c0_1):=(blk_cell BK393.out 1).trans rfl
   have hfz8_0:=blk_frozen BK393.out 0
   have hfz8_1:=blk_frozen BK393.out 1
   go_wp2
   go_meet
   case rel=>exact ⟨_,(decide (a1 < a0_0)),(by first|rfl|(simp;done)|(simp [*];done)),H',⟨by first|omega|exact Nat.le_refl _⟩,⟨by (with_reducible repeat (first|refine blk_drewN ?_ _|refine blk_drew ?_|refine blk_alloc ?_ _));exact BK393.out⟩,⟨by (with_reducible repeat (first|refine blk_drewN ?_ _|refine blk_drew ?_|refine blk_alloc ?_ _));exact BK394.out⟩,⟨by repeat (first|(with_reducible first|exact HB.out|apply below_alloc|apply pw_below_drewN|apply below_drew1|refine below_set ?_ GE393.out|refine below_set ?_ GE394.out)|exact HB.out)⟩⟩
  ·rw [if_neg c6] at H
   have c6b0:decide (0≤a1)=false:=decide_eq_false c6
   clear c6
   (first|rw [c6b0]|(simp only [i64_w];rw [c6b0])|skip)
   have H':=Aside0.mk H
   clear H
   go_wp2
   go_meet
   case rel=>exact ⟨_,(false),(by first|rfl|(simp;done)|(simp [*];done)),H',⟨by first|omega|exact Nat.le_refl _⟩,⟨by (with_reducible repeat (first|refine blk_drewN ?_ _|refine blk_drew ?_|refine blk_alloc ?_ _));exact BK393.out⟩,⟨by (with_reducible repeat (first|refine blk_drewN ?_ _|refine blk_drew ?_|refine blk_alloc ?_ _));exact BK394.out⟩,⟨by repeat (first|(with_reducible first|exact HB.out|apply below_alloc|apply pw_below_drewN|apply below_drew1|refine below_set ?_ GE393.out|refine below_set ?_ GE394.out)|exact HB.out)⟩⟩
 case rest=>
  clear HC3
  obtain ⟨kq,x7_2,rfl,HA,HJ2,BK393,BK394,HB⟩:=hcut
  cases kq with
  |zero=>exact absurd HA.out (by simp [speech_restore.j0])
  |succ kj2=>
   have H:=HA.out
   clear HA
   simp only [speech_restore.j0] at H
   by_cases c9:x7_2=true
   ·subst c9
    have H1:(some (18,0,0,([]:List (S66)),([]:List ByteArray)))=some (r1,r2,r3,r4,r5):=by rw [if_pos rfl] at H;exact H
    clear H
    have H:=H1
    clear H1
    simp only [Option.some.injEq,Prod.mk.injEq] at H
    obtain ⟨rfl,rfl,rfl,rfl,rfl⟩:=H
    have hnb10:=NB394_393.out
    have hnc10:=NB393_394.out
    have hcz11_0:wc.cell? ⟨gb394,0,none⟩=some (.int .i64 0):=(blk_cell BK394.out 0).trans rfl
    have hcz11_1:wc.cell? ⟨gb394,1,none⟩=some (.int .i64 0):=(blk_cell BK394.out 1).trans rfl
    have hcz11_2:wc.cell? ⟨gb394,2,none⟩=some (.int .i64 0):=(blk_cell BK394.out 2).trans rfl
    have hcz11_3:wc.cell? ⟨gb394,3,none⟩=some (.slice none 0 0):=(blk_cell BK394.out 3).trans rfl
    have hcz11_4:wc.cell? ⟨gb394,4,none⟩=some (.slice none 0 0):=(blk_cell BK394.out 4).trans rfl
    have hfz11_0:=blk_frozen BK394.out 0
    have hfz11_1:=blk_frozen BK394.out 1
    have hfz11_2:=blk_frozen BK394.out 2
    have hfz11_3:=blk_frozen BK394.out 3
    have hfz11_4:=blk_frozen BK394.out 4
    go_wp2
    refine bodyPost_ret (results_cell_row rfl _ _ gb394 39 #[.int .i64 18, .int .i64 0, .int .i64 0, .slice none 0 0, .slice none 0 0] (0,0) _ rfl (by (with_reducible repeat (first|refine blk_drewN ?_ _|refine blk_drew ?_|refine blk_alloc ?_ _));refine blk_put (cs:=#[.int .i64 18, .int .i64 0, .int .i64 0, .slice none 0 0, .slice none 0 0]) ?_ 4 _ rfl;(with_reducible repeat (first|refine blk_drewN ?_ _|refine blk_drew ?_|refine blk_alloc ?_ _));refine blk_put (cs:=#[.int .i64 18, .int .i64 0, .int .i64 0, .slice none 0 0, .slice none 0 0]) ?_ 3 _ rfl;(with_reducible repeat (first|refine blk_drewN ?_ _|refine blk_drew ?_|refine blk_alloc ?_ _));refine blk_put (cs:=#[.int .i64 18, .int .i64 0, .int .i64 0, .slice none 0 0, .slice none 0 0]) ?_ 2 _ rfl;(with_reducible repeat (first|refine blk_drewN ?_ _|refine blk_drew ?_|refine blk_alloc ?_ _));refine blk_put (cs:=#[.int .i64 18, .int .i64 0, .int .i64 0, .slice none 0 0, .slice none 0 0]) ?_ 1 _ rfl;(with_reducible repeat (first|refine blk_drewN ?_ _|refine blk_drew ?_|refine blk_alloc ?_ _));refine blk_put (cs:=#[.int .i64 0, .int .i64 0, .int .i64 0, .slice none 0 0, .slice none 0 0]) ?_ 0 _ rfl;(with_reducible repeat (first|refine blk_drewN ?_ _|refine blk_drew ?_|refine blk_alloc ?_ _));exact BK394.out) Tryd.underlying39 rfl (by kernel_rfl)) rfl ?_
    exact ⟨_,_,by first|rfl|(simp [errW_none]<;>rfl)|(simp [*]<;>rfl),by first|exact Kd.R_nil _ _ _ _ _|exact Kd.N_nil _ _ _ _ _|exact Kd.V_nil _ _ _ _ _|exact Kd.Q_nil _ _ _ _ _|exact Kd.S_nil _ _ _ _ _,by first|exact Kd.R_nil _ _ _ _ _|exact Kd.N_nil _ _ _ _ _|exact Kd.V_nil _ _ _ _ _|exact Kd.Q_nil _ _ _ _ _|exact Kd.S_nil _ _ _ _ _,by repeat (first|(with_reducible first|exact HB.out|apply below_alloc|apply pw_below_drewN|apply below_drew1|refine below_set ?_ GE393.out|refine below_set ?_ GE394.out)|exact HB.out)⟩
   ·replace c9:=Bool.eq_false_iff.mpr c9
    subst c9
    have H1:(if a1 < 0 then (some (8,0,0,([]:List (S66)),([]:List ByteArray))) else (if a1≥(l0_1.length:Int) then (some (8,0,0,([]:List (S66)),([]:List ByteArray))) else (if 0≤a1 then (if a1 < (l0_1.length:Int) then ((image_Tree.f kj2 (rdOf ByteArray.empty l0_1 a1)).bind fun bt396=>(some (0,a1,a0_0,bt396.1,([]:List ByteArray)))) else (none)) else (none))))=some (r1,r2,r3,r4,r5):=by rw [if_neg (show ¬(false=true) by decide)] at H;exact H
    clear H
    have H:=H1
    clear H1
    by_cases c12:a1 < 0
    ·rw [if_pos c12] at H
     have c12b0:decide (a1 < 0)=true:=decide_eq_true c12
     clear c12
     simp only [Option.some.injEq,Prod.mk.injEq] at H
     obtain ⟨rfl,rfl,rfl,rfl,rfl⟩:=H
     have hnb13:=NB394_393.out
     have hnc13:=NB393_394.out
     have hcz14_0:wc.cell? ⟨gb394,0,none⟩=some (.int .i64 0):=(blk_cell BK394.out 0).trans rfl
     have hcz14_1:wc.cell? ⟨gb394,1,none⟩=some (.int .i64 0):=(blk_cell BK394.out 1).trans rfl
     have hcz14_2:wc.cell? ⟨gb394,2,none⟩=some (.int .i64 0):=(blk_cell BK394.out 2).trans rfl
     have hcz14_3:wc.cell? ⟨gb394,3,none⟩=some (.slice none 0 0):=(blk_cell BK394.out 3).trans rfl
     have hcz14_4:wc.cell? ⟨gb394,4,none⟩=some (.slice none 0 0):=(blk_cell BK394.out 4).trans rfl
     have hfz14_0:=blk_frozen BK394.out 0
     have hfz14_1:=blk_frozen BK394.out 1
     have hfz14_2:=blk_frozen BK394.out 2
     have hfz14_3:=blk_frozen BK394.out 3
     have hfz14_4:=blk_frozen BK394.out 4
     go_wp2
     refine bodyPost_ret (results_cell_row rfl _ _ gb394 39 #[.int .i64 8, .int .i64 0, .int .i64 0, .slice none 0 0, .slice none 0 0] (0,0) _ rfl (by (with_reducible repeat (first|refine blk_drewN ?_ _|refine blk_drew ?_|refine blk_alloc ?_ _));refine blk_put (cs:=#[.int .i64 8, .int .i64 0, .int .i64 0, .slice none 0 0, .slice none 0 0]) ?_ 4 _ rfl;(with_reducible repeat (first|refine blk_drewN ?_ _|refine blk_drew ?_|refine blk_alloc ?_ _));refine blk_put (cs:=#[.int .i64 8, .int .i64 0, .int .i64 0, .slice none 0 0, .slice none 0 0]) ?_ 3 _ rfl;(with_reducible repeat (first|refine blk_drewN ?_ _|refine blk_drew ?_|refine blk_alloc ?_ _));refine blk_put (cs:=#[.int .i64 8, .int .i64 0, .int .i64 0, .slice none 0 0, .slice none 0 0]) ?_ 2 _ rfl;(with_reducible repeat (first|refine blk_drewN ?_ _|refine blk_drew ?_|refine blk_alloc ?_ _));refine blk_put (cs:=#[.int .i64 8, .int .i64 0, .int .i64 0, .slice none 0 0, .slice none 0 0]) ?_ 1 _ rfl;(with_reducible repeat (first|refine blk_drewN ?_ _|refine blk_drew ?_|refine blk_alloc ?_ _));refine blk_put (cs:=#[.int .i64 0, .int .i64 0, .int .i64 0, .slice none 0 0, .slice none 0 0]) ?_ 0 _ rfl;(with_reducible repeat (first|refine blk_drewN ?_ _|refine blk_drew ?_|refine blk_alloc ?_ _));exact BK394.out) Tryd.underlying39 rfl (by kernel_rfl)) rfl ?_
     exact ⟨_,_,by first|rfl|(simp [errW_none]<;>rfl)|(simp [*]<;>rfl),by first|exact Kd.R_nil _ _ _ _ _|exact Kd.N_nil _ _ _ _ _|exact Kd.V_nil _ _ _ _ _|exact Kd.Q_nil _ _ _ _ _|exact Kd.S_nil _ _ _ _ _,by first|exact Kd.R_nil _ _ _ _ _|exact Kd.N_nil _ _ _ _ _|exact Kd.V_nil _ _ _ _ _|exact Kd.Q_nil _ _ _ _ _|exact Kd.S_nil _ _ _ _ _,by repeat (first|(with_reducible first|exact HB.out|apply below_alloc|apply pw_below_drewN|apply below_drew1|refine below_set ?_ GE393.out|refine below_set ?_ GE394.out)|exact HB.out)⟩
    ·rw [if_neg c12] at H
     have c12b0:decide (a1 < 0)=false:=decide_eq_false c12
     clear c12
     by_cases c15:a1≥(l0_1.length:Int)
     ·rw [if_pos c15] at H
      have c15b0:decide ((l0_1.length:Int)≤a1)=true:=decide_eq_true c15
      clear c15
      simp only [Option.some.injEq,Prod.mk.injEq] at H
      obtain ⟨rfl,rfl,rfl,rfl,rfl⟩:=H
      have hnb16:=NB393_394.out
      have hnc16:=NB394_393.out
      have hcz17_0:wc.cell? ⟨gb393,0,none⟩=some (.int .i64 a0_0):=(blk_cell BK393.out 0).trans rfl
      have hcz17_1:wc.cell? ⟨gb393,1,none⟩=some (.slice A0_1 l0_1.length c0_1):=(blk_cell BK393.out 1).trans rfl
      have hfz17_0:=blk_frozen BK393.out 0
      have hfz17_1:=blk_frozen BK393.out 1
      have hcz18_0:wc.cell? ⟨gb394,0,none⟩=some (.int .i64 0):=(blk_cell BK394.out 0).trans rfl
      have hcz18_1:wc.cell? ⟨gb394,1,none⟩=some (.int .i64 0):=(blk_cell BK394.out 1).trans rfl
      have hcz18_2:wc.cell? ⟨gb394,2,none⟩=some (.int .i64 0):=(blk_cell BK394.out 2).trans rfl
      have hcz18_3:wc.cell? ⟨gb394,3,none⟩=some (.slice none 0 0):=(blk_cell BK394.out 3).trans rfl
      have hcz18_4:wc.cell? ⟨gb394,4,none⟩=some (.slice none 0 0):=(blk_cell BK394.out 4).trans rfl
      have hfz18_0:=blk_frozen BK394.out 0
      have hfz18_1:=blk_frozen BK394.out 1
      have hfz18_2:=blk_frozen BK394.out 2
      have hfz18_3:=blk_frozen BK394.out 3
      have hfz18_4:=blk_frozen BK394.out 4
      go_wp2
      refine bodyPost_ret (results_cell_row rfl _ _ gb394 39 #[.int .i64 8, .int .i64 0, .int .i64 0, .slice none 0 0, .slice none 0 0] (0,0) _ rfl (by (with_reducible repeat (first|refine blk_drewN ?_ _|refine blk_drew ?_|refine blk_alloc ?_ _));refine blk_put (cs:=#[.int .i64 8, .int .i64 0, .int .i64 0, .slice none 0 0, .slice none 0 0]) ?_ 4 _ rfl;(with_reducible repeat (first|refine blk_drewN ?_ _|refine blk_drew ?_|refine blk_alloc ?_ _));refine blk_put (cs:=#[.int .i64 8, .int .i64 0, .int .i64 0, .slice none 0 0, .slice none 0 0]) ?_ 3 _ rfl;(with_reducible repeat (first|refine blk_drewN ?_ _|refine blk_drew ?_|refine blk_alloc ?_ _));refine blk_put (cs:=#[.int .i64 8, .int .i64 0, .int .i64 0, .slice none 0 0, .slice none 0 0]) ?_ 2 _ rfl;(with_reducible repeat (first|refine blk_drewN ?_ _|refine blk_drew ?_|refine blk_alloc ?_ _));refine blk_put (cs:=#[.int .i64 8, .int .i64 0, .int .i64 0, .slice none 0 0, .slice none 0 0]) ?_ 1 _ rfl;(with_reducible repeat (first|refine blk_drewN ?_ _|refine blk_drew ?_|refine blk_alloc ?_ _));refine blk_put (cs:=#[.int .i64 0, .int .i64 0, .int .i64 0, .slice none 0 0, .slice none 0 0]) ?_ 0 _ rfl;(with_reducible repeat (first|refine blk_drewN ?_ _|refine blk_drew ?_|refine blk_alloc ?_ _));exact BK394.out) Tryd.underlying39 rfl (by kernel_rfl)) rfl ?_
      exact ⟨_,_,by first|rfl|(simp [errW_none]<;>rfl)|(simp [*]<;>rfl),by first|exact Kd.R_nil _ _ _ _ _|exact Kd.N_nil _ _ _ _ _|exact Kd.V_nil _ _ _ _ _|exact Kd.Q_nil _ _ _ _ _|exact Kd.S_nil _ _ _ _ _,by first|exact Kd.R_nil _ _ _ _ _|exact Kd.N_nil _ _ _ _ _|exact Kd.V_nil _ _ _ _ _|exact Kd.Q_nil _ _ _ _ _|exact Kd.S_nil _ _ _ _ _,by repeat (first|(with_reducible first|exact HB.out|apply below_alloc|apply pw_below_drewN|apply below_drew1|refine below_set ?_ GE393.out|refine below_set ?_ GE394.out)|exact HB.out)⟩
     ·rw [if_neg c15] at H
      have c15b0:decide ((l0_1.length:Int)≤a1)=false:=decide_eq_false c15
      clear c15
      by_cases c19:0≤a1
      ·rw [if_pos c19] at H
       have c19b0:decide (0≤a1)=true:=decide_eq_true c19
       clear c19
       by_cases c20:a1 < (l0_1.length:Int)
       ·rw [if_pos c20] at H
        have c20b0:decide (a1 < (l0_1.length:Int))=true:=decide_eq_true c20
        clear c20
        replace H:=Option.bind_eq_some_iff.mp H
        obtain ⟨⟨t396,t397⟩,A210,H⟩:=H
        replace H:(some (0,a1,a0_0,t396,([]:List ByteArray)))=some (r1,r2,r3,r4,r5):=H
        have A21:=Aside0.mk A210
        clear A210
        simp only [Option.some.injEq,Prod.mk.injEq] at H
        obtain ⟨rfl,rfl,rfl,rfl,rfl⟩:=H
        have hnb22:=NB393_394.out
        have hnc22:=NB394_393.out
        have hcz23_0:wc.cell? ⟨gb393,0,none⟩=some (.int .i64 a0_0):=(blk_cell BK393.out 0).trans rfl
        have hcz23_1:wc.cell? ⟨gb393,1,none⟩=some (.slice A0_1 l0_1.length c0_1):=(blk_cell BK393.out 1).trans rfl
        have hfz23_0:=blk_frozen BK393.out 0
        have hfz23_1:=blk_frozen BK393.out 1
        have p395:0≤(a1:Int):=of_decide_eq_true (by assumption)
        have q395:a1 < (l0_1.length:Int):=of_decide_eq_true (by assumption)
        obtain ⟨ad395,e395,hx395_0⟩:=Kd.at_string HR0_1.out a1 p395 q395
        cases e395
        replace hx395_0:=(HB.out.cell (World.block_lt_of_cell? w _ hx395_0)).trans hx395_0
        replace p395:=eq_true p395
        replace q395:=eq_true q395
        go_wp2_with (first|((with_reducible refine gate_callee (f:=52) rfl ?_);refine goesL_ (some 34) rfl rfl Tryd.func52 (by kernel_rfl) rfl #[.string (rdOf ByteArray.empty l0_1 a1)] rfl (by (try simp only [List.map_toArray,List.map_cons,List.map_nil]);try rfl) ?_;(with_reducible refine (image_Tree.calls kj2 (rdOf ByteArray.empty l0_1 a1) t396 t397 _ A21.out).mono ?_);rintro e w24 ⟨v398,rfl,ho0,hb⟩;refine ⟨_,rfl,?_⟩;have n0_:=Aside0.mk (Kd.R_lower ho0 (below_size (by repeat (first|(with_reducible first|exact HB.out|apply below_alloc|apply pw_below_drewN|apply below_drew1|refine below_set ?_ GE393.out|refine below_set ?_ GE394.out)|exact HB.out))));have n1_:=Aside0.mk (blk_below (g:=gb393) (o:= .cells #[.int .i64 a0_0, .slice (some ad395) l0_1.length c0_1] 36 (0,0)) (by (with_reducible repeat (first|refine blk_drewN ?_ _|refine blk_drew ?_|refine blk_alloc ?_ _));exact BK393.out) hb);have n2_:=Aside0.mk (blk_below (g:=gb394) (o:= .cells #[.int .i64 0, .int .i64 0, .int .i64 0, .slice none 0 0, .slice none 0 0] 39 (0,0)) (by (with_reducible repeat (first|refine blk_drewN ?_ _|refine blk_drew ?_|refine blk_alloc ?_ _));exact BK394.out) hb);have n3_:=Aside0.mk (below_step (by repeat (first|(with_reducible first|exact HB.out|apply below_alloc|apply pw_below_drewN|apply below_drew1|refine below_set ?_ GE393.out|refine below_set ?_ GE394.out)|exact HB.out)) hb);clear BK393;clear BK394;clear HB;have HO399:=n0_;have BK393:=n1_;have BK394:=n2_;have HB:=n3_;clear n0_ n1_ n2_ n3_;have hcz25_0:w24.cell? ⟨gb393,0,none⟩=some (.int .i64 a0_0):=(blk_cell BK393.out 0).trans rfl;have hcz25_1:w24.cell? ⟨gb393,1,none⟩=some (.slice (some ad395) l0_1.length c0_1):=(blk_cell BK393.out 1).trans rfl;have hfz25_0:=blk_frozen BK393.out 0;have hfz25_1:=blk_frozen BK393.out 1;obtain ⟨Ao26,co26,eo26⟩:=Kd.R_slice HO399.out;subst eo26;have hcz27_0:w24.cell? ⟨gb394,0,none⟩=some (.int .i64 0):=(blk_cell BK394.out 0).trans rfl;have hcz27_1:w24.cell? ⟨gb394,1,none⟩=some (.int .i64 0):=(blk_cell BK394.out 1).trans rfl;have hcz27_2:w24.cell? ⟨gb394,2,none⟩=some (.int .i64 0):=(blk_cell BK394.out 2).trans rfl;have hcz27_3:w24.cell? ⟨gb394,3,none⟩=some (.slice none 0 0):=(blk_cell BK394.out 3).trans rfl;have hcz27_4:w24.cell? ⟨gb394,4,none⟩=some (.slice none 0 0):=(blk_cell BK394.out 4).trans rfl;have hfz27_0:=blk_frozen BK394.out 0;have hfz27_1:=blk_frozen BK394.out 1;have hfz27_2:=blk_frozen BK394.out 2;have hfz27_3:=blk_frozen BK394.out 3;have hfz27_4:=blk_frozen BK394.out 4))
        refine bodyPost_ret (results_cell_row rfl _ _ gb394 39 #[.int .i64 0, .int .i64 a1, .int .i64 a0_0, .slice Ao26 t396.length co26, .slice none 0 0] (0,0) _ rfl (by (with_reducible repeat (first|refine blk_drewN ?_ _|refine blk_drew ?_|refine blk_alloc ?_ _));refine blk_put (cs:=#[.int .i64 0, .int .i64 a1, .int .i64 a0_0, .slice Ao26 t396.length co26, .slice none 0 0]) ?_ 4 _ rfl;(with_reducible repeat (first|refine blk_drewN ?_ _|refine blk_drew ?_|refine blk_alloc ?_ _));refine blk_put (cs:=#[.int .i64 0, .int .i64 a1, .int .i64 a0_0, .slice none 0 0, .slice none 0 0]) ?_ 3 _ rfl;(with_reducible repeat (first|refine blk_drewN ?_ _|refine blk_drew ?_|refine blk_alloc ?_ _));refine blk_put (cs:=#[.int .i64 0, .int .i64 a1, .int .i64 0, .slice none 0 0, .slice none 0 0]) ?_ 2 _ rfl;(with_reducible repeat (first|refine blk_drewN ?_ _|refine blk_drew ?_|refine blk_alloc ?_ _));refine blk_put (cs:=#[.int .i64 0, .int .i64 0, .int .i64 0, .slice none 0 0, .slice none 0 0]) ?_ 1 _ rfl;(with_reducible repeat (first|refine blk_drewN ?_ _|refine blk_drew ?_|refine blk_alloc ?_ _));refine blk_put (cs:=#[.int .i64 0, .int .i64 0, .int .i64 0, .slice none 0 0, .slice none 0 0]) ?_ 0 _ rfl;(with_reducible repeat (first|refine blk_drewN ?_ _|refine blk_drew ?_|refine blk_alloc ?_ _));exact BK394.out) Tryd.underlying39 rfl (by kernel_rfl)) rfl ?_
        exact ⟨_,_,by first|rfl|(simp [errW_none]<;>rfl)|(simp [*]<;>rfl),by (with_reducible repeat (first|apply Kd.R_alloc|apply Kd.R_drewN|apply Kd.R_drew));exact Kd.R_mono (Kd.R_far (p:=⟨gb394,4,none⟩) (Kd.R_far (p:=⟨gb394,3,none⟩) (Kd.R_far (p:=⟨gb394,2,none⟩) (Kd.R_far (p:=⟨gb394,1,none⟩) (Kd.R_far (p:=⟨gb394,0,none⟩) (Kd.R_types HO399.out BK394.out (by decide)) (fun _ hk=>hk.2) (.int .i64 0)) (fun _ hk=>hk.2) (.int .i64 a1)) (fun _ hk=>hk.2) (.int .i64 a0_0)) (fun _ hk=>hk.2) (.slice Ao26 t396.length co26)) (fun _ hk=>hk.2) (.slice none 0 0)) (fun _ hk=>trivial),by first|exact Kd.R_nil _ _ _ _ _|exact Kd.N_nil _ _ _ _ _|exact Kd.V_nil _ _ _ _ _|exact Kd.Q_nil _ _ _ _ _|exact Kd.S_nil _ _ _ _ _,by repeat (first|(with_reducible first|exact HB.out|apply below_alloc|apply pw_below_drewN|apply below_drew1|refine below_set ?_ GE393.out|refine below_set ?_ GE394.out)|exact HB.out)⟩
       ·rw [if_neg c20] at H
        exact absurd H (by simp)
      ·rw [if_neg c19] at H
       exact absurd H (by simp)
end Go.Proofs.YthejnffhfmdpnaaDoor.Q

end

section
namespace Go.Proofs.YthejnffhfmdpnaaDoor.Q
open Go.RowKit Go.Proofs.YthejnffhfmdpnaaDoorW.PrintWords Go.Proofs.YthejnffhfmdpnaaDoorW.PrintLast Go.Proofs.YthejnffhfmdpnaaDoorW.PrintMore
attribute [local go_sem] min2_int min_two
set_option linter.unusedVariables false
set_option linter.unusedSimpArgs false
def slices_Clone_string_string.f (l0:List ByteArray):Option (List ByteArray):=if l0.length≤8796093022208 then some l0 else none
theorem slices_Clone_string_string.calls (A0:Option Addr) (c0:Nat) (l0:List ByteArray) (r:List ByteArray) (w:World) (hr0:Kd.C Kd.string w A0 l0.length l0) (hc0:l0.length≤c0) (h:slices_Clone_string_string.f l0=some r):
  Calls Tryd.prog 33 #[.slice A0 l0.length c0] w fun e w'=> ∃v0_:Value,e= .returned (v0_)∧Kd.R Kd.string 9 w' w.heap.size (fun _=>True) v0_ r∧Below w.heap.size w w':=by
 unfold slices_Clone_string_string.f at h
 by_cases c:l0.length≤8796093022208
 ·rw [if_pos c] at h
  obtain rfl:=Option.some.inj h
  clear h
  cases A0 with
  |none=>
   have hl:l0= []:=by
    by_cases hn:0 < l0.length
    ·obtain ⟨ad,e,_⟩:=hr0.2.2 hn
     exact absurd e (by simp)
    ·exact List.length_eq_zero_iff.mp (by omega)
   subst hl
   refine (Lay.slices_Clone_string_nil 0 c0 w).mono ?_
   rintro e w' ⟨he,rfl⟩
   exact ⟨_,he,Kd.R_nil _ _ _ _ _,Below.refl _ _⟩
  |some ad=>
   by_cases hn:0 < l0.length
   ·have hcell: ∀j,j < l0.length→w.cell? (ad.add j)=some (.string (l0.getD j ByteArray.empty)):=by
     obtain ⟨ad',e,hc⟩:=hr0.2.2 hn
     obtain rfl:=Option.some.inj e
     intro j hj
     obtain ⟨cs,hs,hk,hu⟩:=hc j _ (List.getElem?_eq_getElem hj)
     have hk:cs= [.string l0[j]]:=hk
     subst hk
     have:=hu 0 _ rfl
     rw [show j*Kd.string.sz+0=j from Nat.mul_one j] at this
     rw [this,List.getD_eq_getElem?_getD,List.getElem?_eq_getElem hj]
     rfl
    have hsp:ad.spot=none:=by simpa [Addr.add] using World.cell?_spot (hcell 0 hn)
    obtain ⟨b,off,sp⟩:=ad
    have hsp:sp=none:=hsp
    subst hsp
    refine (Lay.slices_Clone_string b off l0.length c0 l0 w (Nat.le_refl _) (by omega) (fun j hj=>by
     have hq:=hcell j hj
     by_cases hj0:j=0
     ·subst hj0
      exact hq
     ·rw [Addr.add,if_neg hj0] at hq
      exact hq)).mono ?_
    rintro e w' ⟨v,he,ho,_,hb⟩
    rw [List.take_length] at ho
    exact ⟨v,he,Kd.R_of_own (h1:=fun _=>rfl) ho (fun _ _=>trivial),hb⟩
   ·obtain rfl:l0= []:=List.length_eq_zero_iff.mp (by omega)
    refine (Lay.slices_Clone_string_zero ad c0 w).mono ?_
    rintro e w' ⟨v,he,ho,_,hb⟩
    exact ⟨v,he,Kd.R_of_own (h1:=fun _=>rfl) (xs:=[]) ho (fun _ _=>trivial),hb⟩
 ·rw [if_neg c] at h
  exact absurd h (by simp)
end Go.Proofs.YthejnffhfmdpnaaDoor.Q

end

section
namespace Go.Proofs.YthejnffhfmdpnaaDoor.Q
open Go.RowKit Go.Proofs.YthejnffhfmdpnaaDoorW.PrintWords Go.Proofs.YthejnffhfmdpnaaDoorW.PrintLast Go.Proofs.YthejnffhfmdpnaaDoorW.PrintMore
set_option linter.unusedVariables false
set_option linter.unusedSimpArgs false
def DoPost (w:World) (A0:Option Addr) (c0:Nat) (l0:List ByteArray) (r:Int × List ByteArray × Int × Int × Int × List S66 × List ByteArray) (e:Ending) (w':World):Prop:=
 ∃v1 v5 v6:Value,e= .returned (.tuple #[.agg #[.int .i64 r.1,v1], .agg #[.int .i64 r.2.2.1, .int .i64 r.2.2.2.1, .int .i64 r.2.2.2.2.1,v5,v6]])∧((v1= .slice A0 l0.length c0∧r.2.1=l0)∨Kd.R Kd.string 9 w' w.heap.size (fun _=>True) v1 r.2.1)∧Kd.R k66 66 w' w.heap.size (fun _=>True) v5 r.2.2.2.2.2.1∧Kd.R Kd.string 9 w' w.heap.size (fun _=>True) v6 r.2.2.2.2.2.2∧Below w.heap.size w w'
set_option maxHeartbeats 8000000 in
set_option maxRecDepth 100000 in
theorem speech_Do.dflt (k:Nat) (fl:Int) (A0:Option Addr) (c0:Nat) (l0:List ByteArray) (kind gen:Int) (A1:Option Addr) (c1:Nat) (l1:List S66) (w:World) (hr0:Kd.C Kd.string w A0 l0.length l0) (hc0:l0.length≤c0) (hr1:Kd.C k66 w A1 l1.length l1) (hc1:l1.length≤c1) (h1:(kind == 1)=false) (h2:(kind == 2)=false) (h3:(kind == 3)=false) (h4:(kind == 4)=false) (h6:(kind == 6)=false) (h5:(kind == 5)=false):
  Calls Tryd.prog 18 #[.agg #[.int .i64 fl, .slice A0 l0.length c0], .agg #[.int .i64 kind, .int .i64 gen, .slice A1 l1.length c1]] w (DoPost w A0 c0 l0 (fl,l0,1,0,0,[],[])):=by
 have hlm:=hr0.2.1
 have HR0:=Aside0.mk hr0
 have HC0:=Aside0.mk hc0
 have HR1:=Aside0.mk hr1
 have HC1:=Aside0.mk hc1
 clear hr0 hc0 hr1 hc1
 go_enter Tryd.func18,Tryd.ntmps18
 go_wp2
 refine bodyPost_ret (v:= .tuple #[.agg #[.int .i64 (fl), .slice A0 l0.length c0], .agg #[.int .i64 (1), .int .i64 (0), .int .i64 (0), .slice none 0 0, .slice none 0 0]]) (by simp [results,Tryd.results18,go_sem]) rfl ?_
 exact ⟨_,_,_,rfl, .inl ⟨rfl,rfl⟩,Kd.R_nil _ _ _ _ _,Kd.R_nil _ _ _ _ _,(by repeat (first|exact Below.refl _ _|apply below_alloc|apply below_drew|apply pw_below_drewN))⟩
set_option maxHeartbeats 8000000 in
set_option maxRecDepth 100000 in
theorem speech_Do.four (k:Nat) (fl:Int) (A0:Option Addr) (c0:Nat) (l0:List ByteArray) (kind gen:Int) (A1:Option Addr) (c1:Nat) (l1:List S66) (w:World) (hr0:Kd.C Kd.string w A0 l0.length l0) (hc0:l0.length≤c0) (hr1:Kd.C k66 w A1 l1.length l1) (hc1:l1.length≤c1) (h1:(kind == 1)=false) (h2:(kind == 2)=false) (h3:(kind == 3)=false) (h4:(kind == 4)=true):
  Calls Tryd.prog 18 #[.agg #[.int .i64 fl, .slice A0 l0.length c0], .agg #[.int .i64 kind, .int .i64 gen, .slice A1 l1.length c1]] w (DoPost w A0 c0 l0 (fl,l0,0,(l0.length:Int),fl,[],[])):=by
 have hlm:=hr0.2.1
 have HR0:=Aside0.mk hr0
 have HC0:=Aside0.mk hc0
 have HR1:=Aside0.mk hr1
 have HC1:=Aside0.mk hc1
 clear hr0 hc0 hr1 hc1
 go_enter Tryd.func18,Tryd.ntmps18
 go_wp2
 go_region
 go_wp2
 refine bodyPost_ret (v:= .tuple #[.agg #[.int .i64 (fl), .slice A0 l0.length c0], .agg #[.int .i64 (0), .int .i64 ((l0.length:Int)), .int .i64 (fl), .slice none 0 0, .slice none 0 0]]) (by simp [results,Tryd.results18,go_sem]) rfl ?_
 exact ⟨_,_,_,rfl, .inl ⟨rfl,rfl⟩,Kd.R_nil _ _ _ _ _,Kd.R_nil _ _ _ _ _,(by repeat (first|exact Below.refl _ _|apply below_alloc|apply below_drew|apply pw_below_drewN))⟩
set_option maxHeartbeats 8000000 in
set_option maxRecDepth 100000 in
theorem speech_Do.six (k:Nat) (fl:Int) (A0:Option Addr) (c0:Nat) (l0:List ByteArray) (kind gen:Int) (A1:Option Addr) (c1:Nat) (l1:List S66) (w:World) (hr0:Kd.C Kd.string w A0 l0.length l0) (hc0:l0.length≤c0) (hr1:Kd.C k66 w A1 l1.length l1) (hc1:l1.length≤c1) (h1:(kind == 1)=false) (h2:(kind == 2)=false) (h3:(kind == 3)=false) (h4:(kind == 4)=false) (h6:(kind == 6)=true):
  Calls Tryd.prog 18 #[.agg #[.int .i64 fl, .slice A0 l0.length c0], .agg #[.int .i64 kind, .int .i64 gen, .slice A1 l1.length c1]] w (DoPost w A0 c0 l0 (fl,l0,0,(l0.length:Int),fl,[],[])):=by
 have hlm:=hr0.2.1
 have HR0:=Aside0.mk hr0
 have HC0:=Aside0.mk hc0
 have HR1:=Aside0.mk hr1
 have HC1:=Aside0.mk hc1
 clear hr0 hc0 hr1 hc1
 go_enter Tryd.func18,Tryd.ntmps18
 go_wp2
 go_region
 go_wp2
 refine bodyPost_ret (v:= .tuple #[.agg #[.int .i64 (fl), .slice A0 l0.length c0], .agg #[.int .i64 (0), .int .i64 ((l0.length:Int)), .int .i64 (fl), .slice none 0 0, .slice none 0 0]]) (by simp [results,Tryd.results18,go_sem]) rfl ?_
 exact ⟨_,_,_,rfl, .inl ⟨rfl,rfl⟩,Kd.R_nil _ _ _ _ _,Kd.R_nil _ _ _ _ _,(by repeat (first|exact Below.refl _ _|apply below_alloc|apply below_drew|apply pw_below_drewN))⟩
set_option maxHeartbeats 8000000 in
set_option maxRecDepth 100000 in
theorem speech_Do.three_neg (k:Nat) (fl:Int) (A0:Option Addr) (c0:Nat) (l0:List ByteArray) (kind gen:Int) (A1:Option Addr) (c1:Nat) (l1:List S66) (w:World) (hr0:Kd.C Kd.string w A0 l0.length l0) (hc0:l0.length≤c0) (hr1:Kd.C k66 w A1 l1.length l1) (hc1:l1.length≤c1) (h1:(kind == 1)=false) (h2:(kind == 2)=false) (h3:(kind == 3)=true) (hg:decide (gen < 0)=true):
  Calls Tryd.prog 18 #[.agg #[.int .i64 fl, .slice A0 l0.length c0], .agg #[.int .i64 kind, .int .i64 gen, .slice A1 l1.length c1]] w (DoPost w A0 c0 l0 (fl,l0,2,0,0,[],[])):=by
 have hlm:=hr0.2.1
 have HR0:=Aside0.mk hr0
 have HC0:=Aside0.mk hc0
 have HR1:=Aside0.mk hr1
 have HC1:=Aside0.mk hc1
 clear hr0 hc0 hr1 hc1
 go_enter Tryd.func18,Tryd.ntmps18
 go_wp2
 refine bodyPost_ret (v:= .tuple #[.agg #[.int .i64 (fl), .slice A0 l0.length c0], .agg #[.int .i64 (2), .int .i64 (0), .int .i64 (0), .slice none 0 0, .slice none 0 0]]) (by simp [results,Tryd.results18,go_sem]) rfl ?_
 exact ⟨_,_,_,rfl, .inl ⟨rfl,rfl⟩,Kd.R_nil _ _ _ _ _,Kd.R_nil _ _ _ _ _,(by repeat (first|exact Below.refl _ _|apply below_alloc|apply below_drew|apply pw_below_drewN))⟩
set_option maxHeartbeats 8000000 in
set_option maxRecDepth 100000 in
theorem speech_Do.five_neg (k:Nat) (fl:Int) (A0:Option Addr) (c0:Nat) (l0:List ByteArray) (kind gen:Int) (A1:Option Addr) (c1:Nat) (l1:List S66) (w:World) (hr0:Kd.C Kd.string w A0 l0.length l0) (hc0:l0.length≤c0) (hr1:Kd.C k66 w A1 l1.length l1) (hc1:l1.length≤c1) (h1:(kind == 1)=false) (h2:(kind == 2)=false) (h3:(kind == 3)=false) (h4:(kind == 4)=false) (h6:(kind == 6)=false) (h5:(kind == 5)=true) (hg:decide (gen < 0)=true):
  Calls Tryd.prog 18 #[.agg #[.int .i64 fl, .slice A0 l0.length c0], .agg #[.int .i64 kind, .int .i64 gen, .slice A1 l1.length c1]] w (DoPost w A0 c0 l0 (fl,l0,2,0,0,[],[])):=by
 have hlm:=hr0.2.1
 have HR0:=Aside0.mk hr0
 have HC0:=Aside0.mk hc0
 have HR1:=Aside0.mk hr1
 have HC1:=Aside0.mk hc1
 clear hr0 hc0 hr1 hc1
 go_enter Tryd.func18,Tryd.ntmps18
 go_wp2
 refine bodyPost_ret (v:= .tuple #[.agg #[.int .i64 (fl), .slice A0 l0.length c0], .agg #[.int .i64 (2), .int .i64 (0), .int .i64 (0), .slice none 0 0, .slice none 0 0]]) (by simp [results,Tryd.results18,go_sem]) rfl ?_
 exact ⟨_,_,_,rfl, .inl ⟨rfl,rfl⟩,Kd.R_nil _ _ _ _ _,Kd.R_nil _ _ _ _ _,(by repeat (first|exact Below.refl _ _|apply below_alloc|apply below_drew|apply pw_below_drewN))⟩
set_option maxHeartbeats 8000000 in
set_option maxRecDepth 100000 in
theorem speech_Do.five_low (k:Nat) (fl:Int) (A0:Option Addr) (c0:Nat) (l0:List ByteArray) (kind gen:Int) (A1:Option Addr) (c1:Nat) (l1:List S66) (w:World) (hr0:Kd.C Kd.string w A0 l0.length l0) (hc0:l0.length≤c0) (hr1:Kd.C k66 w A1 l1.length l1) (hc1:l1.length≤c1) (h1:(kind == 1)=false) (h2:(kind == 2)=false) (h3:(kind == 3)=false) (h4:(kind == 4)=false) (h6:(kind == 6)=false) (h5:(kind == 5)=true) (hg:decide (gen < 0)=false) (hf:decide (gen≤fl)=true):
  Calls Tryd.prog 18 #[.agg #[.int .i64 fl, .slice A0 l0.length c0], .agg #[.int .i64 kind, .int .i64 gen, .slice A1 l1.length c1]] w (DoPost w A0 c0 l0 (fl,l0,0,(l0.length:Int),fl,[],[])):=by
 have hlm:=hr0.2.1
 have HR0:=Aside0.mk hr0
 have HC0:=Aside0.mk hc0
 have HR1:=Aside0.mk hr1
 have HC1:=Aside0.mk hc1
 clear hr0 hc0 hr1 hc1
 go_enter Tryd.func18,Tryd.ntmps18
 go_wp2
 go_region
 go_wp2
 refine bodyPost_ret (v:= .tuple #[.agg #[.int .i64 (fl), .slice A0 l0.length c0], .agg #[.int .i64 (0), .int .i64 ((l0.length:Int)), .int .i64 (fl), .slice none 0 0, .slice none 0 0]]) (by simp [results,Tryd.results18,go_sem]) rfl ?_
 exact ⟨_,_,_,rfl, .inl ⟨rfl,rfl⟩,Kd.R_nil _ _ _ _ _,Kd.R_nil _ _ _ _ _,(by repeat (first|exact Below.refl _ _|apply below_alloc|apply below_drew|apply pw_below_drewN))⟩
set_option maxHeartbeats 8000000 in
set_option maxRecDepth 100000 in
theorem speech_Do.five_high (k:Nat) (fl:Int) (A0:Option Addr) (c0:Nat) (l0:List ByteArray) (kind gen:Int) (A1:Option Addr) (c1:Nat) (l1:List S66) (w:World) (hr0:Kd.C Kd.string w A0 l0.length l0) (hc0:l0.length≤c0) (hr1:Kd.C k66 w A1 l1.length l1) (hc1:l1.length≤c1) (h1:(kind == 1)=false) (h2:(kind == 2)=false) (h3:(kind == 3)=false) (h4:(kind == 4)=false) (h6:(kind == 6)=false) (h5:(kind == 5)=true) (hg:decide (gen < 0)=false) (hf:decide (gen≤fl)=false) (hn:decide ((l0.length:Int)≤gen)=true):
  Calls Tryd.prog 18 #[.agg #[.int .i64 fl, .slice A0 l0.length c0], .agg #[.int .i64 kind, .int .i64 gen, .slice A1 l1.length c1]] w (DoPost w A0 c0 l0 (fl,l0,2,0,0,[],[])):=by
 have hlm:=hr0.2.1
 have HR0:=Aside0.mk hr0
 have HC0:=Aside0.mk hc0
 have HR1:=Aside0.mk hr1
 have HC1:=Aside0.mk hc1
 clear hr0 hc0 hr1 hc1
 go_enter Tryd.func18,Tryd.ntmps18
 go_wp2
 refine bodyPost_ret (v:= .tuple #[.agg #[.int .i64 (fl), .slice A0 l0.length c0], .agg #[.int .i64 (2), .int .i64 (0), .int .i64 (0), .slice none 0 0, .slice none 0 0]]) (by simp [results,Tryd.results18,go_sem]) rfl ?_
 exact ⟨_,_,_,rfl, .inl ⟨rfl,rfl⟩,Kd.R_nil _ _ _ _ _,Kd.R_nil _ _ _ _ _,(by repeat (first|exact Below.refl _ _|apply below_alloc|apply below_drew|apply pw_below_drewN))⟩
set_option maxHeartbeats 8000000 in
set_option maxRecDepth 100000 in
theorem speech_Do.five_ok (k:Nat) (fl:Int) (A0:Option Addr) (c0:Nat) (l0:List ByteArray) (kind gen:Int) (A1:Option Addr) (c1:Nat) (l1:List S66) (w:World) (hr0:Kd.C Kd.string w A0 l0.length l0) (hc0:l0.length≤c0) (hr1:Kd.C k66 w A1 l1.length l1) (hc1:l1.length≤c1) (h1:(kind == 1)=false) (h2:(kind == 2)=false) (h3:(kind == 3)=false) (h4:(kind == 4)=false) (h6:(kind == 6)=false) (h5:(kind == 5)=true) (hg:decide (gen < 0)=false) (hf:decide (gen≤fl)=false) (hn:decide ((l0.length:Int)≤gen)=false):
  Calls Tryd.prog 18 #[.agg #[.int .i64 fl, .slice A0 l0.length c0], .agg #[.int .i64 kind, .int .i64 gen, .slice A1 l1.length c1]] w (DoPost w A0 c0 l0 (gen,l0,0,(l0.length:Int),gen,[],[])):=by
 have hlm:=hr0.2.1
 have HR0:=Aside0.mk hr0
 have HC0:=Aside0.mk hc0
 have HR1:=Aside0.mk hr1
 have HC1:=Aside0.mk hc1
 clear hr0 hc0 hr1 hc1
 go_enter Tryd.func18,Tryd.ntmps18
 go_wp2
 go_region
 go_wp2
 refine bodyPost_ret (v:= .tuple #[.agg #[.int .i64 (gen), .slice A0 l0.length c0], .agg #[.int .i64 (0), .int .i64 ((l0.length:Int)), .int .i64 (gen), .slice none 0 0, .slice none 0 0]]) (by simp [results,Tryd.results18,go_sem]) rfl ?_
 exact ⟨_,_,_,rfl, .inl ⟨rfl,rfl⟩,Kd.R_nil _ _ _ _ _,Kd.R_nil _ _ _ _ _,(by repeat (first|exact Below.refl _ _|apply below_alloc|apply below_drew|apply pw_below_drewN))⟩
set_option maxHeartbeats 8000000 in
set_option maxRecDepth 100000 in
theorem speech_Do.two (k:Nat) (fl:Int) (A0:Option Addr) (c0:Nat) (l0:List ByteArray) (kind gen:Int) (A1:Option Addr) (c1:Nat) (l1:List S66) (w:World) (hr0:Kd.C Kd.string w A0 l0.length l0) (hc0:l0.length≤c0) (hr1:Kd.C k66 w A1 l1.length l1) (hc1:l1.length≤c1) (h1:(kind == 1)=false) (h2:(kind == 2)=true) (r1 r2 r3:Int) (r4:List S66) (r5:List ByteArray) (h:speech_restore.f k fl l0 (wrap64 ((l0.length:Int) - 1))=some (r1,r2,r3,r4,r5)):
  Calls Tryd.prog 18 #[.agg #[.int .i64 fl, .slice A0 l0.length c0], .agg #[.int .i64 kind, .int .i64 gen, .slice A1 l1.length c1]] w (DoPost w A0 c0 l0 (fl,l0,r1,r2,r3,r4,r5)):=by
 have hlm:=hr0.2.1
 have HR0:=Aside0.mk hr0
 have HC0:=Aside0.mk hc0
 have HR1:=Aside0.mk hr1
 have HC1:=Aside0.mk hc1
 clear hr0 hc0 hr1 hc1
 have HH:=Aside0.mk h
 clear h
 go_enter Tryd.func18,Tryd.ntmps18
 go_wp2
 have HD:=Aside0.mk (Bx.four w #[.int .i64 fl, .slice A0 l0.length c0] #[.int .i64 kind, .int .i64 gen, .slice A1 l1.length c1] #[.int .i64 0, .slice none 0 0] #[.int .i64 0, .int .i64 0, .int .i64 0, .slice none 0 0, .slice none 0 0] 36 43 36 39)
 generalize (((w.alloc (.cells #[.int .i64 fl, .slice A0 l0.length c0] 36)).alloc (.cells #[.int .i64 kind, .int .i64 gen, .slice A1 l1.length c1] 43)).alloc (.cells #[.int .i64 0, .slice none 0 0] 36)).alloc (.cells #[.int .i64 0, .int .i64 0, .int .i64 0, .slice none 0 0, .slice none 0 0] 39)=W at HD ⊢
 refine start_ (n:=7) (S:=fun w'=>w'.cell? ⟨w.heap.size,0,none⟩=some (.int .i64 fl)∧w'.cell? ⟨w.heap.size,1,none⟩=some (.slice A0 l0.length c0)) (ds:=[5,6]) (TF [0,7]) (by kernel_rfl) rfl rfl ⟨(blk_cell (HD.out.at_ 0 _ _ rfl) 0).trans rfl,(blk_cell (HD.out.at_ 0 _ _ rfl) 1).trans rfl⟩ (fun hHeld=>?_)
 have n0_:=Aside0.mk (HD.out.drew)
 clear HD
 have HD:=n0_
 clear n0_
 generalize W.drew=W1 at HD hHeld ⊢
 refine pure_ (i:=2) (N:=some 51) (v:=?_) (a':=?_) (TF [0,2,1,4]) rfl rfl (by kernel_rfl) (fun _ _ _ h=>h) (Or.inl ⟨by rfl,?_⟩) ?_ ?_
 rotate_left
 ·intro w'
  go_simp
  with_reducible rfl
 rotate_left
 ·simp only [Act.put,List.setIfInBounds_toArray,List.set_cons_zero,List.set_cons_succ,i64_w]
  rfl
 refine pure_ (i:=3) (N:=some 52) (v:=?_) (a':=?_) (TF [0,2,2,3]) rfl rfl (by kernel_rfl) (fun _ _ _ h=>h) (Or.inl ⟨by rfl,?_⟩) ?_ ?_
 rotate_left
 ·intro w'
  go_simp
  with_reducible rfl
 rotate_left
 ·simp only [Act.put,List.setIfInBounds_toArray,List.set_cons_zero,List.set_cons_succ,i64_w]
  rfl
 refine take_ (i:=0) (N:=some 49) (v:=?_) (a':=?_) (TF [1,1,2,3]) rfl rfl (by kernel_rfl) (fun _ _ _ h=>h) (Or.inl ⟨by rfl,?_⟩) hHeld ?_ ?_
 rotate_left
 ·rintro w' ⟨s0,s1⟩
  go_simp
  with_reducible rfl
 rotate_left
 ·simp only [Act.put,List.setIfInBounds_toArray,List.set_cons_zero,List.set_cons_succ,i64_w]
  rfl
 refine take_ (i:=1) (N:=some 50) (v:=?_) (a':=?_) (TF [4,3]) rfl rfl (by kernel_rfl) (fun _ _ _ h=>h) (Or.inl ⟨by rfl,?_⟩) hHeld ?_ ?_
 rotate_left
 ·rintro w' ⟨s0,s1⟩
  go_simp
  with_reducible rfl
 rotate_left
 ·simp only [Act.put,List.setIfInBounds_toArray,List.set_cons_zero,List.set_cons_succ,i64_w]
  rfl
 refine one_ (i:=4) (N:=some 53) (TF [5,2]) rfl rfl (by kernel_rfl) (by decide) (fun K hK=>?_)
 refine goes_ Tryd.func34 (by kernel_rfl) rfl #[.agg #[.int .i64 fl, .slice A0 l0.length c0], .int .i64 (wrap64 ((l0.length:Int) - 1))] (by rfl) rfl rfl (by simp only [List.map_toArray,List.map_cons,List.map_nil];rfl) ?_
 with_reducible refine (speech_restore.calls k fl A0 c0 l0 (wrap64 ((l0.length:Int) - 1)) r1 r2 r3 r4 r5 W1 (Kd.C_below HR0.out HD.out.bel) HC0.out HH.out).mono ?_
 rintro e W2 ⟨v4,v5,rfl,g4,g5,hb⟩
 obtain ⟨A4,c4,rfl⟩:=Kd.R_slice g4
 obtain ⟨A5,c5,rfl⟩:=Kd.R_slice g5
 refine ⟨_,rfl,?_⟩
 have G4:=Aside0.mk (Kd.R_lower g4 HD.out.bel.size)
 have G5:=Aside0.mk (Kd.R_lower g5 HD.out.bel.size)
 have n0_:=Aside0.mk (HD.out.below hb)
 clear HD
 have HD:=n0_
 clear n0_
 clear hb g4 g5
 have z20:W2.cell? ⟨w.heap.size+1+1,0,none⟩=some (.int .i64 0):=(blk_cell (HD.out.at_ 2 _ _ rfl) 0).trans rfl
 have y20:W2.frozen? ⟨w.heap.size+1+1,0,none⟩=false:=blk_frozen (HD.out.at_ 2 _ _ rfl) 0
 have z21:W2.cell? ⟨w.heap.size+1+1,1,none⟩=some (.slice none 0 0):=(blk_cell (HD.out.at_ 2 _ _ rfl) 1).trans rfl
 have y21:W2.frozen? ⟨w.heap.size+1+1,1,none⟩=false:=blk_frozen (HD.out.at_ 2 _ _ rfl) 1
 have z30:W2.cell? ⟨w.heap.size+1+1+1,0,none⟩=some (.int .i64 0):=(blk_cell (HD.out.at_ 3 _ _ rfl) 0).trans rfl
 have y30:W2.frozen? ⟨w.heap.size+1+1+1,0,none⟩=false:=blk_frozen (HD.out.at_ 3 _ _ rfl) 0
 have z31:W2.cell? ⟨w.heap.size+1+1+1,1,none⟩=some (.int .i64 0):=(blk_cell (HD.out.at_ 3 _ _ rfl) 1).trans rfl
 have y31:W2.frozen? ⟨w.heap.size+1+1+1,1,none⟩=false:=blk_frozen (HD.out.at_ 3 _ _ rfl) 1
 have z32:W2.cell? ⟨w.heap.size+1+1+1,2,none⟩=some (.int .i64 0):=(blk_cell (HD.out.at_ 3 _ _ rfl) 2).trans rfl
 have y32:W2.frozen? ⟨w.heap.size+1+1+1,2,none⟩=false:=blk_frozen (HD.out.at_ 3 _ _ rfl) 2
 have z33:W2.cell? ⟨w.heap.size+1+1+1,3,none⟩=some (.slice none 0 0):=(blk_cell (HD.out.at_ 3 _ _ rfl) 3).trans rfl
 have y33:W2.frozen? ⟨w.heap.size+1+1+1,3,none⟩=false:=blk_frozen (HD.out.at_ 3 _ _ rfl) 3
 have z34:W2.cell? ⟨w.heap.size+1+1+1,4,none⟩=some (.slice none 0 0):=(blk_cell (HD.out.at_ 3 _ _ rfl) 4).trans rfl
 have y34:W2.frozen? ⟨w.heap.size+1+1+1,4,none⟩=false:=blk_frozen (HD.out.at_ 3 _ _ rfl) 4
 refine hK.out _ _ ⟨(blk_cell (HD.out.at_ 0 _ _ rfl) 0).trans rfl,(blk_cell (HD.out.at_ 0 _ _ rfl) 1).trans rfl⟩ (fun hHeld=>?_)
 clear hK K
 refine norm_ (a':=?_) ?_ ?_
 rotate_left
 ·show Act.put _ (some 53) _=_
  simp only [Act.put,List.setIfInBounds_toArray,List.set_cons_zero,List.set_cons_succ,i64_w]
  rfl
 refine last_ (i:=5) (N:=none) (TF [6,1]) rfl rfl (by kernel_rfl) (by decide) (fun K hK=>?_)
 refine skip_ (w1:=?_) (by rfl) rfl ?_ ?_
 rotate_left
 ·go_simp
  rfl
 refine hK.out _ _ ?_
 clear hK K
 refine last_ (i:=6) (N:=none) (TF [7]) rfl rfl (by kernel_rfl) (by decide) (fun K hK=>?_)
 refine skip_ (w1:=?_) (by rfl) rfl ?_ ?_
 rotate_left
 ·go_simp
  rfl
 refine hK.out _ _ ?_
 clear hK K
 refine done_ (by kernel_rfl) ?_
 go_wp2
 have P:=put_res (HD.out.at_ 2 _ _ rfl) (HD.out.at_ 3 _ _ rfl) (by omega) (.int .i64 fl) (.slice A0 l0.length c0) (.int .i64 r1) (.int .i64 r2) (.int .i64 r3) (.slice A4 r4.length c4) (.slice A5 r5.length c5)
 refine bodyPost_ret (results_cc rfl _ _ (w.heap.size+1+1) (w.heap.size+1+1+1) 36 39 #[.int .i64 fl, .slice A0 l0.length c0] #[.int .i64 r1, .int .i64 r2, .int .i64 r3, .slice A4 r4.length c4, .slice A5 r5.length c5] (0,0) (0,0) _ _ rfl P.1 Tryd.underlying36 rfl (by kernel_rfl) rfl P.2.1 Tryd.underlying39 rfl (by kernel_rfl)) rfl ?_
 refine ⟨_,_,_,rfl, .inl ⟨rfl,rfl⟩,R_only G4.out (HD.out.at_ 2 _ _ rfl) (HD.out.at_ 3 _ _ rfl) (by decide) (by decide) P.2.2,R_only G5.out (HD.out.at_ 2 _ _ rfl) (HD.out.at_ 3 _ _ rfl) (by decide) (by decide) P.2.2,?_⟩
 iterate 7 refine below_set ?_ (by omega)
 exact HD.out.bel
set_option maxHeartbeats 8000000 in
set_option maxRecDepth 100000 in
theorem speech_Do.three (k:Nat) (fl:Int) (A0:Option Addr) (c0:Nat) (l0:List ByteArray) (kind gen:Int) (A1:Option Addr) (c1:Nat) (l1:List S66) (w:World) (hr0:Kd.C Kd.string w A0 l0.length l0) (hc0:l0.length≤c0) (hr1:Kd.C k66 w A1 l1.length l1) (hc1:l1.length≤c1) (h1:(kind == 1)=false) (h2:(kind == 2)=false) (h3:(kind == 3)=true) (hg:decide (gen < 0)=false) (r1 r2 r3:Int) (r4:List S66) (r5:List ByteArray) (h:speech_restore.f k fl l0 (gen)=some (r1,r2,r3,r4,r5)):
  Calls Tryd.prog 18 #[.agg #[.int .i64 fl, .slice A0 l0.length c0], .agg #[.int .i64 kind, .int .i64 gen, .slice A1 l1.length c1]] w (DoPost w A0 c0 l0 (fl,l0,r1,r2,r3,r4,r5)):=by
 have hlm:=hr0.2.1
 have HR0:=Aside0.mk hr0
 have HC0:=Aside0.mk hc0
 have HR1:=Aside0.mk hr1
 have HC1:=Aside0.mk hc1
 clear hr0 hc0 hr1 hc1
 have HH:=Aside0.mk h
 clear h
 go_enter Tryd.func18,Tryd.ntmps18
 go_wp2
 have HD:=Aside0.mk (Bx.four w #[.int .i64 fl, .slice A0 l0.length c0] #[.int .i64 kind, .int .i64 gen, .slice A1 l1.length c1] #[.int .i64 0, .slice none 0 0] #[.int .i64 0, .int .i64 0, .int .i64 0, .slice none 0 0, .slice none 0 0] 36 43 36 39)
 generalize (((w.alloc (.cells #[.int .i64 fl, .slice A0 l0.length c0] 36)).alloc (.cells #[.int .i64 kind, .int .i64 gen, .slice A1 l1.length c1] 43)).alloc (.cells #[.int .i64 0, .slice none 0 0] 36)).alloc (.cells #[.int .i64 0, .int .i64 0, .int .i64 0, .slice none 0 0, .slice none 0 0] 39)=W at HD ⊢
 refine start_ (n:=7) (S:=fun w'=>w'.cell? ⟨w.heap.size,0,none⟩=some (.int .i64 fl)∧w'.cell? ⟨w.heap.size,1,none⟩=some (.slice A0 l0.length c0)∧w'.cell? ⟨w.heap.size+1,1,none⟩=some (.int .i64 gen)) (ds:=[5,6]) (TF [0,7]) (by kernel_rfl) rfl rfl ⟨(blk_cell (HD.out.at_ 0 _ _ rfl) 0).trans rfl,(blk_cell (HD.out.at_ 0 _ _ rfl) 1).trans rfl,(blk_cell (HD.out.at_ 1 _ _ rfl) 1).trans rfl⟩ (fun hHeld=>?_)
 have n0_:=Aside0.mk (HD.out.drew)
 clear HD
 have HD:=n0_
 clear n0_
 generalize W.drew=W1 at HD hHeld ⊢
 refine pure_ (i:=2) (N:=some 63) (v:=?_) (a':=?_) (TF [0,2,1,4]) rfl rfl (by kernel_rfl) (fun _ _ _ h=>h) (Or.inl ⟨by rfl,?_⟩) ?_ ?_
 rotate_left
 ·intro w'
  go_simp
  with_reducible rfl
 rotate_left
 ·simp only [Act.put,List.setIfInBounds_toArray,List.set_cons_zero,List.set_cons_succ,i64_w]
  rfl
 refine take_ (i:=0) (N:=some 61) (v:=?_) (a':=?_) (TF [1,1,1,4]) rfl rfl (by kernel_rfl) (fun _ _ _ h=>h) (Or.inl ⟨by rfl,?_⟩) hHeld ?_ ?_
 rotate_left
 ·rintro w' ⟨s0,s1,s2⟩
  go_simp
  with_reducible rfl
 rotate_left
 ·simp only [Act.put,List.setIfInBounds_toArray,List.set_cons_zero,List.set_cons_succ,i64_w]
  rfl
 refine take_ (i:=1) (N:=some 62) (v:=?_) (a':=?_) (TF [3,4]) rfl rfl (by kernel_rfl) (fun _ _ _ h=>h) (Or.inl ⟨by rfl,?_⟩) hHeld ?_ ?_
 rotate_left
 ·rintro w' ⟨s0,s1,s2⟩
  go_simp
  with_reducible rfl
 rotate_left
 ·simp only [Act.put,List.setIfInBounds_toArray,List.set_cons_zero,List.set_cons_succ,i64_w]
  rfl
 refine take_ (i:=3) (N:=some 64) (v:=?_) (a':=?_) (TF [4,3]) rfl rfl (by kernel_rfl) (fun _ _ _ h=>h) (Or.inl ⟨by rfl,?_⟩) hHeld ?_ ?_
 rotate_left
 ·rintro w' ⟨s0,s1,s2⟩
  go_simp
  with_reducible rfl
 rotate_left
 ·simp only [Act.put,List.setIfInBounds_toArray,List.set_cons_zero,List.set_cons_succ,i64_w]
  rfl
 refine one_ (i:=4) (N:=some 65) (TF [5,2]) rfl rfl (by kernel_rfl) (by decide) (fun K hK=>?_)
 refine goes_ Tryd.func34 (by kernel_rfl) rfl #[.agg #[.int .i64 fl, .slice A0 l0.length c0], .int .i64 (gen)] (by rfl) rfl rfl (by simp only [List.map_toArray,List.map_cons,List.map_nil];rfl) ?_
 with_reducible refine (speech_restore.calls k fl A0 c0 l0 (gen) r1 r2 r3 r4 r5 W1 (Kd.C_below HR0.out HD.out.bel) HC0.out HH.out).mono ?_
 rintro e W2 ⟨v4,v5,rfl,g4,g5,hb⟩
 obtain ⟨A4,c4,rfl⟩:=Kd.R_slice g4
 obtain ⟨A5,c5,rfl⟩:=Kd.R_slice g5
 refine ⟨_,rfl,?_⟩
 have G4:=Aside0.mk (Kd.R_lower g4 HD.out.bel.size)
 have G5:=Aside0.mk (Kd.R_lower g5 HD.out.bel.size)
 have n0_:=Aside0.mk (HD.out.below hb)
 clear HD
 have HD:=n0_
 clear n0_
 clear hb g4 g5
 have z20:W2.cell? ⟨w.heap.size+1+1,0,none⟩=some (.int .i64 0):=(blk_cell (HD.out.at_ 2 _ _ rfl) 0).trans rfl
 have y20:W2.frozen? ⟨w.heap.size+1+1,0,none⟩=false:=blk_frozen (HD.out.at_ 2 _ _ rfl) 0
 have z21:W2.cell? ⟨w.heap.size+1+1,1,none⟩=some (.slice none 0 0):=(blk_cell (HD.out.at_ 2 _ _ rfl) 1).trans rfl
 have y21:W2.frozen? ⟨w.heap.size+1+1,1,none⟩=false:=blk_frozen (HD.out.at_ 2 _ _ rfl) 1
 have z30:W2.cell? ⟨w.heap.size+1+1+1,0,none⟩=some (.int .i64 0):=(blk_cell (HD.out.at_ 3 _ _ rfl) 0).trans rfl
 have y30:W2.frozen? ⟨w.heap.size+1+1+1,0,none⟩=false:=blk_frozen (HD.out.at_ 3 _ _ rfl) 0
 have z31:W2.cell? ⟨w.heap.size+1+1+1,1,none⟩=some (.int .i64 0):=(blk_cell (HD.out.at_ 3 _ _ rfl) 1).trans rfl
 have y31:W2.frozen? ⟨w.heap.size+1+1+1,1,none⟩=false:=blk_frozen (HD.out.at_ 3 _ _ rfl) 1
 have z32:W2.cell? ⟨w.heap.size+1+1+1,2,none⟩=some (.int .i64 0):=(blk_cell (HD.out.at_ 3 _ _ rfl) 2).trans rfl
 have y32:W2.frozen? ⟨w.heap.size+1+1+1,2,none⟩=false:=blk_frozen (HD.out.at_ 3 _ _ rfl) 2
 have z33:W2.cell? ⟨w.heap.size+1+1+1,3,none⟩=some (.slice none 0 0):=(blk_cell (HD.out.at_ 3 _ _ rfl) 3).trans rfl
 have y33:W2.frozen? ⟨w.heap.size+1+1+1,3,none⟩=false:=blk_frozen (HD.out.at_ 3 _ _ rfl) 3
 have z34:W2.cell? ⟨w.heap.size+1+1+1,4,none⟩=some (.slice none 0 0):=(blk_cell (HD.out.at_ 3 _ _ rfl) 4).trans rfl
 have y34:W2.frozen? ⟨w.heap.size+1+1+1,4,none⟩=false:=blk_frozen (HD.out.at_ 3 _ _ rfl) 4
 refine hK.out _ _ ⟨(blk_cell (HD.out.at_ 0 _ _ rfl) 0).trans rfl,(blk_cell (HD.out.at_ 0 _ _ rfl) 1).trans rfl,(blk_cell (HD.out.at_ 1 _ _ rfl) 1).trans rfl⟩ (fun hHeld=>?_)
 clear hK K
 refine norm_ (a':=?_) ?_ ?_
 rotate_left
 ·show Act.put _ (some 65) _=_
  simp only [Act.put,List.setIfInBounds_toArray,List.set_cons_zero,List.set_cons_succ,i64_w]
  rfl
 refine last_ (i:=5) (N:=none) (TF [6,1]) rfl rfl (by kernel_rfl) (by decide) (fun K hK=>?_)
 refine skip_ (w1:=?_) (by rfl) rfl ?_ ?_
 rotate_left
 ·go_simp
  rfl
 refine hK.out _ _ ?_
 clear hK K
 refine last_ (i:=6) (N:=none) (TF [7]) rfl rfl (by kernel_rfl) (by decide) (fun K hK=>?_)
 refine skip_ (w1:=?_) (by rfl) rfl ?_ ?_
 rotate_left
 ·go_simp
  rfl
 refine hK.out _ _ ?_
 clear hK K
 refine done_ (by kernel_rfl) ?_
 go_wp2
 have P:=put_res (HD.out.at_ 2 _ _ rfl) (HD.out.at_ 3 _ _ rfl) (by omega) (.int .i64 fl) (.slice A0 l0.length c0) (.int .i64 r1) (.int .i64 r2) (.int .i64 r3) (.slice A4 r4.length c4) (.slice A5 r5.length c5)
 refine bodyPost_ret (results_cc rfl _ _ (w.heap.size+1+1) (w.heap.size+1+1+1) 36 39 #[.int .i64 fl, .slice A0 l0.length c0] #[.int .i64 r1, .int .i64 r2, .int .i64 r3, .slice A4 r4.length c4, .slice A5 r5.length c5] (0,0) (0,0) _ _ rfl P.1 Tryd.underlying36 rfl (by kernel_rfl) rfl P.2.1 Tryd.underlying39 rfl (by kernel_rfl)) rfl ?_
 refine ⟨_,_,_,rfl, .inl ⟨rfl,rfl⟩,R_only G4.out (HD.out.at_ 2 _ _ rfl) (HD.out.at_ 3 _ _ rfl) (by decide) (by decide) P.2.2,R_only G5.out (HD.out.at_ 2 _ _ rfl) (HD.out.at_ 3 _ _ rfl) (by decide) (by decide) P.2.2,?_⟩
 iterate 7 refine below_set ?_ (by omega)
 exact HD.out.bel
set_option maxHeartbeats 8000000 in
set_option maxRecDepth 100000 in
theorem speech_Do.one_err (k:Nat) (fl:Int) (A0:Option Addr) (c0:Nat) (l0:List ByteArray) (kind gen:Int) (A1:Option Addr) (c1:Nat) (l1:List S66) (w:World) (hr0:Kd.C Kd.string w A0 l0.length l0) (hc0:l0.length≤c0) (hr1:Kd.C k66 w A1 l1.length l1) (hc1:l1.length≤c1) (s1:ByteArray) (e1:Int) (h:image_Of.f k l1=some (s1,e1)) (h1:(kind == 1)=true) (he:(e1 == 0)=false) (he2:(e1 != 0)=true):
  Calls Tryd.prog 18 #[.agg #[.int .i64 fl, .slice A0 l0.length c0], .agg #[.int .i64 kind, .int .i64 gen, .slice A1 l1.length c1]] w (DoPost w A0 c0 l0 (fl,l0,e1,0,0,[],[])):=by
 have hlm:=hr0.2.1
 have HR0:=Aside0.mk hr0
 have HC0:=Aside0.mk hc0
 have HR1:=Aside0.mk hr1
 have HC1:=Aside0.mk hc1
 clear hr0 hc0 hr1 hc1
 have HS:=Aside0.mk h
 clear h
 go_enter Tryd.func18,Tryd.ntmps18
 go_wp2_with (first|(go_at_call 32;(with_reducible refine (image_Of.calls k A1 c1 l1 s1 e1 _ (Kd.C_below HR1.out (Bx.four w #[.int .i64 fl, .slice A0 l0.length c0] #[.int .i64 kind, .int .i64 gen, .slice A1 l1.length c1] #[.int .i64 0, .slice none 0 0] #[.int .i64 0, .int .i64 0, .int .i64 0, .slice none 0 0, .slice none 0 0] 36 43 36 39).bel) HC1.out HS.out).mono ?_);rintro e w1 ⟨rfl,hb⟩;have HD:=Aside0.mk ((Bx.four w #[.int .i64 fl, .slice A0 l0.length c0] #[.int .i64 kind, .int .i64 gen, .slice A1 l1.length c1] #[.int .i64 0, .slice none 0 0] #[.int .i64 0, .int .i64 0, .int .i64 0, .slice none 0 0, .slice none 0 0] 36 43 36 39).below hb);clear hb;have z00:w1.cell? ⟨w.heap.size,0,none⟩=some (.int .i64 fl):=(blk_cell (HD.out.at_ 0 _ _ rfl) 0).trans rfl;have y00:w1.frozen? ⟨w.heap.size,0,none⟩=false:=blk_frozen (HD.out.at_ 0 _ _ rfl) 0;have z01:w1.cell? ⟨w.heap.size,1,none⟩=some (.slice A0 l0.length c0):=(blk_cell (HD.out.at_ 0 _ _ rfl) 1).trans rfl;have y01:w1.frozen? ⟨w.heap.size,1,none⟩=false:=blk_frozen (HD.out.at_ 0 _ _ rfl) 1;have z20:w1.cell? ⟨w.heap.size+1+1,0,none⟩=some (.int .i64 0):=(blk_cell (HD.out.at_ 2 _ _ rfl) 0).trans rfl;have y20:w1.frozen? ⟨w.heap.size+1+1,0,none⟩=false:=blk_frozen (HD.out.at_ 2 _ _ rfl) 0;have z21:w1.cell? ⟨w.heap.size+1+1,1,none⟩=some (.slice none 0 0):=(blk_cell (HD.out.at_ 2 _ _ rfl) 1).trans rfl;have y21:w1.frozen? ⟨w.heap.size+1+1,1,none⟩=false:=blk_frozen (HD.out.at_ 2 _ _ rfl) 1;have z30:w1.cell? ⟨w.heap.size+1+1+1,0,none⟩=some (.int .i64 0):=(blk_cell (HD.out.at_ 3 _ _ rfl) 0).trans rfl;have y30:w1.frozen? ⟨w.heap.size+1+1+1,0,none⟩=false:=blk_frozen (HD.out.at_ 3 _ _ rfl) 0;have z31:w1.cell? ⟨w.heap.size+1+1+1,1,none⟩=some (.int .i64 0):=(blk_cell (HD.out.at_ 3 _ _ rfl) 1).trans rfl;have y31:w1.frozen? ⟨w.heap.size+1+1+1,1,none⟩=false:=blk_frozen (HD.out.at_ 3 _ _ rfl) 1;have z32:w1.cell? ⟨w.heap.size+1+1+1,2,none⟩=some (.int .i64 0):=(blk_cell (HD.out.at_ 3 _ _ rfl) 2).trans rfl;have y32:w1.frozen? ⟨w.heap.size+1+1+1,2,none⟩=false:=blk_frozen (HD.out.at_ 3 _ _ rfl) 2;have z33:w1.cell? ⟨w.heap.size+1+1+1,3,none⟩=some (.slice none 0 0):=(blk_cell (HD.out.at_ 3 _ _ rfl) 3).trans rfl;have y33:w1.frozen? ⟨w.heap.size+1+1+1,3,none⟩=false:=blk_frozen (HD.out.at_ 3 _ _ rfl) 3;have z34:w1.cell? ⟨w.heap.size+1+1+1,4,none⟩=some (.slice none 0 0):=(blk_cell (HD.out.at_ 3 _ _ rfl) 4).trans rfl;have y34:w1.frozen? ⟨w.heap.size+1+1+1,4,none⟩=false:=blk_frozen (HD.out.at_ 3 _ _ rfl) 4))
 have P:=put_res (HD.out.at_ 2 _ _ rfl) (HD.out.at_ 3 _ _ rfl) (by omega) (.int .i64 fl) (.slice A0 l0.length c0) (.int .i64 e1) (.int .i64 0) (.int .i64 0) (.slice none 0 0) (.slice none 0 0)
 refine bodyPost_ret (results_cc rfl _ _ (w.heap.size+1+1) (w.heap.size+1+1+1) 36 39 #[.int .i64 fl, .slice A0 l0.length c0] #[.int .i64 e1, .int .i64 0, .int .i64 0, .slice none 0 0, .slice none 0 0] (0,0) (0,0) _ _ rfl P.1 Tryd.underlying36 rfl (by kernel_rfl) rfl P.2.1 Tryd.underlying39 rfl (by kernel_rfl)) rfl ?_
 refine ⟨_,_,_,rfl, .inl ⟨rfl,rfl⟩,Kd.R_nil _ _ _ _ _,Kd.R_nil _ _ _ _ _,?_⟩
 iterate 7 refine below_set ?_ (by omega)
 exact HD.out.bel
set_option maxHeartbeats 8000000 in
set_option maxRecDepth 100000 in
theorem speech_Do.one_full (k:Nat) (fl:Int) (A0:Option Addr) (c0:Nat) (l0:List ByteArray) (kind gen:Int) (A1:Option Addr) (c1:Nat) (l1:List S66) (w:World) (hr0:Kd.C Kd.string w A0 l0.length l0) (hc0:l0.length≤c0) (hr1:Kd.C k66 w A1 l1.length l1) (hc1:l1.length≤c1) (s1:ByteArray) (e1:Int) (h:image_Of.f k l1=some (s1,e1)) (h1:(kind == 1)=true) (he:(e1 == 0)=true) (he2:(e1 != 0)=false) (hq:decide (32≤wrap64 ((l0.length:Int) - fl))=true):
  Calls Tryd.prog 18 #[.agg #[.int .i64 fl, .slice A0 l0.length c0], .agg #[.int .i64 kind, .int .i64 gen, .slice A1 l1.length c1]] w (DoPost w A0 c0 l0 (fl,l0,7,0,0,[],[])):=by
 have hlm:=hr0.2.1
 have HR0:=Aside0.mk hr0
 have HC0:=Aside0.mk hc0
 have HR1:=Aside0.mk hr1
 have HC1:=Aside0.mk hc1
 clear hr0 hc0 hr1 hc1
 have HS:=Aside0.mk h
 clear h
 go_enter Tryd.func18,Tryd.ntmps18
 go_wp2_with (first|(go_at_call 32;(with_reducible refine (image_Of.calls k A1 c1 l1 s1 e1 _ (Kd.C_below HR1.out (Bx.four w #[.int .i64 fl, .slice A0 l0.length c0] #[.int .i64 kind, .int .i64 gen, .slice A1 l1.length c1] #[.int .i64 0, .slice none 0 0] #[.int .i64 0, .int .i64 0, .int .i64 0, .slice none 0 0, .slice none 0 0] 36 43 36 39).bel) HC1.out HS.out).mono ?_);rintro e w1 ⟨rfl,hb⟩;have HD:=Aside0.mk ((Bx.four w #[.int .i64 fl, .slice A0 l0.length c0] #[.int .i64 kind, .int .i64 gen, .slice A1 l1.length c1] #[.int .i64 0, .slice none 0 0] #[.int .i64 0, .int .i64 0, .int .i64 0, .slice none 0 0, .slice none 0 0] 36 43 36 39).below hb);clear hb;have z00:w1.cell? ⟨w.heap.size,0,none⟩=some (.int .i64 fl):=(blk_cell (HD.out.at_ 0 _ _ rfl) 0).trans rfl;have y00:w1.frozen? ⟨w.heap.size,0,none⟩=false:=blk_frozen (HD.out.at_ 0 _ _ rfl) 0;have z01:w1.cell? ⟨w.heap.size,1,none⟩=some (.slice A0 l0.length c0):=(blk_cell (HD.out.at_ 0 _ _ rfl) 1).trans rfl;have y01:w1.frozen? ⟨w.heap.size,1,none⟩=false:=blk_frozen (HD.out.at_ 0 _ _ rfl) 1;have z20:w1.cell? ⟨w.heap.size+1+1,0,none⟩=some (.int .i64 0):=(blk_cell (HD.out.at_ 2 _ _ rfl) 0).trans rfl;have y20:w1.frozen? ⟨w.heap.size+1+1,0,none⟩=false:=blk_frozen (HD.out.at_ 2 _ _ rfl) 0;have z21:w1.cell? ⟨w.heap.size+1+1,1,none⟩=some (.slice none 0 0):=(blk_cell (HD.out.at_ 2 _ _ rfl) 1).trans rfl;have y21:w1.frozen? ⟨w.heap.size+1+1,1,none⟩=false:=blk_frozen (HD.out.at_ 2 _ _ rfl) 1;have z30:w1.cell? ⟨w.heap.size+1+1+1,0,none⟩=some (.int .i64 0):=(blk_cell (HD.out.at_ 3 _ _ rfl) 0).trans rfl;have y30:w1.frozen? ⟨w.heap.size+1+1+1,0,none⟩=false:=blk_frozen (HD.out.at_ 3 _ _ rfl) 0;have z31:w1.cell? ⟨w.heap.size+1+1+1,1,none⟩=some (.int .i64 0):=(blk_cell (HD.out.at_ 3 _ _ rfl) 1).trans rfl;have y31:w1.frozen? ⟨w.heap.size+1+1+1,1,none⟩=false:=blk_frozen (HD.out.at_ 3 _ _ rfl) 1;have z32:w1.cell? ⟨w.heap.size+1+1+1,2,none⟩=some (.int .i64 0):=(blk_cell (HD.out.at_ 3 _ _ rfl) 2).trans rfl;have y32:w1.frozen? ⟨w.heap.size+1+1+1,2,none⟩=false:=blk_frozen (HD.out.at_ 3 _ _ rfl) 2;have z33:w1.cell? ⟨w.heap.size+1+1+1,3,none⟩=some (.slice none 0 0):=(blk_cell (HD.out.at_ 3 _ _ rfl) 3).trans rfl;have y33:w1.frozen? ⟨w.heap.size+1+1+1,3,none⟩=false:=blk_frozen (HD.out.at_ 3 _ _ rfl) 3;have z34:w1.cell? ⟨w.heap.size+1+1+1,4,none⟩=some (.slice none 0 0):=(blk_cell (HD.out.at_ 3 _ _ rfl) 4).trans rfl;have y34:w1.frozen? ⟨w.heap.size+1+1+1,4,none⟩=false:=blk_frozen (HD.out.at_ 3 _ _ rfl) 4))
 have P:=put_res (HD.out.at_ 2 _ _ rfl) (HD.out.at_ 3 _ _ rfl) (by omega) (.int .i64 fl) (.slice A0 l0.length c0) (.int .i64 7) (.int .i64 0) (.int .i64 0) (.slice none 0 0) (.slice none 0 0)
 refine bodyPost_ret (results_cc rfl _ _ (w.heap.size+1+1) (w.heap.size+1+1+1) 36 39 #[.int .i64 fl, .slice A0 l0.length c0] #[.int .i64 7, .int .i64 0, .int .i64 0, .slice none 0 0, .slice none 0 0] (0,0) (0,0) _ _ rfl P.1 Tryd.underlying36 rfl (by kernel_rfl) rfl P.2.1 Tryd.underlying39 rfl (by kernel_rfl)) rfl ?_
 refine ⟨_,_,_,rfl, .inl ⟨rfl,rfl⟩,Kd.R_nil _ _ _ _ _,Kd.R_nil _ _ _ _ _,?_⟩
 iterate 7 refine below_set ?_ (by omega)
 exact HD.out.bel
set_option maxHeartbeats 8000000 in
set_option maxRecDepth 100000 in
theorem speech_Do.one_ok (k:Nat) (fl:Int) (A0:Option Addr) (c0:Nat) (l0:List ByteArray) (kind gen:Int) (A1:Option Addr) (c1:Nat) (l1:List S66) (w:World) (hr0:Kd.C Kd.string w A0 l0.length l0) (hc0:l0.length≤c0) (hr1:Kd.C k66 w A1 l1.length l1) (hc1:l1.length≤c1) (s1:ByteArray) (e1:Int) (h:image_Of.f k l1=some (s1,e1)) (h1:(kind == 1)=true) (he:(e1 == 0)=true) (he2:(e1 != 0)=false) (hq:decide (32≤wrap64 ((l0.length:Int) - fl))=false) (hl:l0.length < 8796093022207):
  Calls Tryd.prog 18 #[.agg #[.int .i64 fl, .slice A0 l0.length c0], .agg #[.int .i64 kind, .int .i64 gen, .slice A1 l1.length c1]] w (DoPost w A0 c0 l0 (fl,l0++[s1],0,(l0.length:Int),fl,[],[])):=by
 have hlm:=hr0.2.1
 have HR0:=Aside0.mk hr0
 have HC0:=Aside0.mk hc0
 have HR1:=Aside0.mk hr1
 have HC1:=Aside0.mk hc1
 clear hr0 hc0 hr1 hc1
 have HS:=Aside0.mk h
 have LM:=Aside0.mk hl
 have HCl:=Aside0.mk (show slices_Clone_string_string.f l0=some l0 by unfold slices_Clone_string_string.f;rw [if_pos (by omega)])
 clear h hl
 go_enter Tryd.func18,Tryd.ntmps18
 go_wp2_with (first|(go_at_call 32;(with_reducible refine (image_Of.calls k A1 c1 l1 s1 e1 _ (Kd.C_below HR1.out (Bx.four w #[.int .i64 fl, .slice A0 l0.length c0] #[.int .i64 kind, .int .i64 gen, .slice A1 l1.length c1] #[.int .i64 0, .slice none 0 0] #[.int .i64 0, .int .i64 0, .int .i64 0, .slice none 0 0, .slice none 0 0] 36 43 36 39).bel) HC1.out HS.out).mono ?_);rintro e w1 ⟨rfl,hb⟩;have HD:=Aside0.mk ((Bx.four w #[.int .i64 fl, .slice A0 l0.length c0] #[.int .i64 kind, .int .i64 gen, .slice A1 l1.length c1] #[.int .i64 0, .slice none 0 0] #[.int .i64 0, .int .i64 0, .int .i64 0, .slice none 0 0, .slice none 0 0] 36 43 36 39).below hb);clear hb;have z00:w1.cell? ⟨w.heap.size,0,none⟩=some (.int .i64 fl):=(blk_cell (HD.out.at_ 0 _ _ rfl) 0).trans rfl;have y00:w1.frozen? ⟨w.heap.size,0,none⟩=false:=blk_frozen (HD.out.at_ 0 _ _ rfl) 0;have z01:w1.cell? ⟨w.heap.size,1,none⟩=some (.slice A0 l0.length c0):=(blk_cell (HD.out.at_ 0 _ _ rfl) 1).trans rfl;have y01:w1.frozen? ⟨w.heap.size,1,none⟩=false:=blk_frozen (HD.out.at_ 0 _ _ rfl) 1;have z20:w1.cell? ⟨w.heap.size+1+1,0,none⟩=some (.int .i64 0):=(blk_cell (HD.out.at_ 2 _ _ rfl) 0).trans rfl;have y20:w1.frozen? ⟨w.heap.size+1+1,0,none⟩=false:=blk_frozen (HD.out.at_ 2 _ _ rfl) 0;have z21:w1.cell? ⟨w.heap.size+1+1,1,none⟩=some (.slice none 0 0):=(blk_cell (HD.out.at_ 2 _ _ rfl) 1).trans rfl;have y21:w1.frozen? ⟨w.heap.size+1+1,1,none⟩=false:=blk_frozen (HD.out.at_ 2 _ _ rfl) 1;have z30:w1.cell? ⟨w.heap.size+1+1+1,0,none⟩=some (.int .i64 0):=(blk_cell (HD.out.at_ 3 _ _ rfl) 0).trans rfl;have y30:w1.frozen? ⟨w.heap.size+1+1+1,0,none⟩=false:=blk_frozen (HD.out.at_ 3 _ _ rfl) 0;have z31:w1.cell? ⟨w.heap.size+1+1+1,1,none⟩=some (.int .i64 0):=(blk_cell (HD.out.at_ 3 _ _ rfl) 1).trans rfl;have y31:w1.frozen? ⟨w.heap.size+1+1+1,1,none⟩=false:=blk_frozen (HD.out.at_ 3 _ _ rfl) 1;have z32:w1.cell? ⟨w.heap.size+1+1+1,2,none⟩=some (.int .i64 0):=(blk_cell (HD.out.at_ 3 _ _ rfl) 2).trans rfl;have y32:w1.frozen? ⟨w.heap.size+1+1+1,2,none⟩=false:=blk_frozen (HD.out.at_ 3 _ _ rfl) 2;have z33:w1.cell? ⟨w.heap.size+1+1+1,3,none⟩=some (.slice none 0 0):=(blk_cell (HD.out.at_ 3 _ _ rfl) 3).trans rfl;have y33:w1.frozen? ⟨w.heap.size+1+1+1,3,none⟩=false:=blk_frozen (HD.out.at_ 3 _ _ rfl) 3;have z34:w1.cell? ⟨w.heap.size+1+1+1,4,none⟩=some (.slice none 0 0):=(blk_cell (HD.out.at_ 3 _ _ rfl) 4).trans rfl;have y34:w1.frozen? ⟨w.heap.size+1+1+1,4,none⟩=false:=blk_frozen (HD.out.at_ 3 _ _ rfl) 4))
 refine start_ (n:=15) (S:=fun w'=>w'.cell? ⟨w.heap.size,0,none⟩=some (.int .i64 fl)∧w'.cell? ⟨w.heap.size,1,none⟩=some (.slice A0 l0.length c0)) (ds:=[14]) (TF [0,15]) (by kernel_rfl) rfl rfl ⟨(blk_cell (HD.out.at_ 0 _ _ rfl) 0).trans rfl,(blk_cell (HD.out.at_ 0 _ _ rfl) 1).trans rfl⟩ (fun hHeld=>?_)
 have n0_:=Aside0.mk (HD.out.drew)
 clear HD
 have HD:=n0_
 clear n0_
 clear z00 y00 z01 y01 z20 y20 z21 y21 z30 y30 z31 y31 z32 y32 z33 y33 z34 y34
 generalize w1.drew=W1 at HD hHeld ⊢
 refine pure_ (i:=0) (N:=some 34) (v:=?_) (a':=?_) (TF [1,14]) rfl rfl (by kernel_rfl) (fun _ _ _ h=>h) (Or.inl ⟨by rfl,?_⟩) ?_ ?_
 rotate_left
 ·intro w'
  go_simp
  with_reducible rfl
 rotate_left
 ·simp only [Act.put,List.setIfInBounds_toArray,List.set_cons_zero,List.set_cons_succ,i64_w]
  rfl
 refine pure_ (i:=2) (N:=some 36) (v:=?_) (a':=?_) (TF [1,1,1,12]) rfl rfl (by kernel_rfl) (fun _ _ _ h=>h) (Or.inl ⟨by rfl,?_⟩) ?_ ?_
 rotate_left
 ·intro w'
  go_simp
  with_reducible rfl
 rotate_left
 ·simp only [Act.put,List.setIfInBounds_toArray,List.set_cons_zero,List.set_cons_succ,i64_w]
  rfl
 refine pure_ (i:=5) (N:=some 39) (v:=?_) (a':=?_) (TF [1,1,1,2,1,9]) rfl rfl (by kernel_rfl) (fun _ _ _ h=>h) (Or.inl ⟨by rfl,?_⟩) ?_ ?_
 rotate_left
 ·intro w'
  go_simp
  with_reducible rfl
 rotate_left
 ·simp only [Act.put,List.setIfInBounds_toArray,List.set_cons_zero,List.set_cons_succ,i64_w]
  rfl
 refine pure_ (i:=9) (N:=some 43) (v:=?_) (a':=?_) (TF [1,1,1,2,1,3,1,5]) rfl rfl (by kernel_rfl) (fun _ _ _ h=>h) (Or.inl ⟨by rfl,?_⟩) ?_ ?_
 rotate_left
 ·intro w'
  go_simp
  with_reducible rfl
 rotate_left
 ·simp only [Act.put,List.setIfInBounds_toArray,List.set_cons_zero,List.set_cons_succ,i64_w]
  rfl
 refine pure_ (i:=10) (N:=some 44) (v:=?_) (a':=?_) (TF [1,1,1,2,1,3,2,4]) rfl rfl (by kernel_rfl) (fun _ _ _ h=>h) (Or.inl ⟨by rfl,?_⟩) ?_ ?_
 rotate_left
 ·intro w'
  go_simp
  with_reducible rfl
 rotate_left
 ·simp only [Act.put,List.setIfInBounds_toArray,List.set_cons_zero,List.set_cons_succ,i64_w]
  rfl
 refine take_ (i:=1) (N:=some 35) (v:=?_) (a':=?_) (TF [3,2,1,3,2,4]) rfl rfl (by kernel_rfl) (fun _ _ _ h=>h) (Or.inl ⟨by rfl,?_⟩) hHeld ?_ ?_
 rotate_left
 ·rintro w' ⟨s0,s1⟩
  go_simp
  with_reducible rfl
 rotate_left
 ·simp only [Act.put,List.setIfInBounds_toArray,List.set_cons_zero,List.set_cons_succ,i64_w]
  rfl
 refine take_ (i:=3) (N:=some 37) (v:=?_) (a':=?_) (TF [4,1,1,3,2,4]) rfl rfl (by kernel_rfl) (fun _ _ _ h=>h) (Or.inl ⟨by rfl,?_⟩) hHeld ?_ ?_
 rotate_left
 ·rintro w' ⟨s0,s1⟩
  go_simp
  with_reducible rfl
 rotate_left
 ·simp only [Act.put,List.setIfInBounds_toArray,List.set_cons_zero,List.set_cons_succ,i64_w]
  rfl
 refine take_ (i:=11) (N:=some 45) (v:=?_) (a':=?_) (TF [4,1,1,3,3,3]) rfl rfl (by kernel_rfl) (fun _ _ _ h=>h) (Or.inl ⟨by rfl,?_⟩) hHeld ?_ ?_
 rotate_left
 ·rintro w' ⟨s0,s1⟩
  go_simp
  with_reducible rfl
 rotate_left
 ·simp only [Act.put,List.setIfInBounds_toArray,List.set_cons_zero,List.set_cons_succ,i64_w]
  rfl
 refine pure_ (i:=12) (N:=some 46) (v:=?_) (a':=?_) (TF [4,1,1,3,4,2]) rfl rfl (by kernel_rfl) (fun _ _ _ h=>h) (Or.inl ⟨by rfl,?_⟩) ?_ ?_
 rotate_left
 ·intro w'
  go_simp
  with_reducible rfl
 rotate_left
 ·simp only [Act.put,List.setIfInBounds_toArray,List.set_cons_zero,List.set_cons_succ,i64_w]
  rfl
 refine join_ (σ:=Value × Value) 4 (TF [7,2,4,2]) (fun s_=>[(38,s_.1),(40,s_.2)]) (fun s_ w'=>Bx w [(#[.int .i64 fl, .slice A0 l0.length c0],36),(#[.int .i64 kind, .int .i64 gen, .slice A1 l1.length c1],43),(#[.int .i64 0, .slice none 0 0],36),(#[.int .i64 0, .int .i64 0, .int .i64 0, .slice none 0 0, .slice none 0 0],39)] w'∧Kd.string.R 9 w' w.heap.size (fun _=>True) s_.1 l0∧Kd.string.R 9 w' w.heap.size (fun _=>True) s_.2 [s1]) ?_ ?_
 rotate_left
 ·intro hCont
  refine two_ (i:=4) (j:=6) (Ni:=some 38) (Nj:=some 40) (TF [6,3,4,2]) (TF [4,1,2,2,4,2]) rfl rfl rfl rfl (by kernel_rfl) (by decide) (by decide) (fun K hK=>?_) (fun K hK=>?_)
  ·skip
   refine goes_ Tryd.func33 (by kernel_rfl) rfl #[.slice A0 l0.length c0] (by rfl) rfl rfl (by simp only [List.map_toArray,List.map_cons,List.map_nil];rfl) ?_
   with_reducible refine (slices_Clone_string_string.calls A0 c0 l0 l0 _ (Kd.C_below HR0.out HD.out.bel) HC0.out HCl.out).mono ?_
   rintro e W2 ⟨v1,rfl,g1,hb⟩
   refine ⟨_,rfl,?_⟩
   have n0_:=Aside0.mk (HD.out.below hb)
   have n1_:=Aside0.mk (Kd.R_lower g1 HD.out.bel.size)
   clear HD
   (try clear G1)
   have HD:=n0_
   have G1:=n1_
   clear n0_ n1_
   clear g1 hb
   refine hK.out _ _ ⟨(blk_cell (HD.out.at_ 0 _ _ rfl) 0).trans rfl,(blk_cell (HD.out.at_ 0 _ _ rfl) 1).trans rfl⟩ (fun hHeld=>?_)
   clear hK K
   refine norm_ (a':=?_) ?_ ?_
   rotate_left
   ·show Act.put _ (some 38) _=_
    simp only [Act.put,List.setIfInBounds_toArray,List.set_cons_zero,List.set_cons_succ,i64_w]
    rfl
   refine one_ (i:=6) (N:=some 40) (TF [7,2,4,2]) rfl rfl (by kernel_rfl) (by decide) (fun K hK=>?_)
   refine Kd.R_lit_step Kd.string (w0:=w) w.heap.size 9 ?hg (N:=40) ?hd (xs:=([s1]:List ByteArray)) (inner:=[.string s1]) (ok:=fun _=>True) (okp:=fun _=>True) ?hr ?hp (fun _ hk=>hk) trivial HD.out.bel HD.out.bel.size (by simp) ?_;(case hd=>rfl);(case hg=>rfl);(case hr=>first|(go_simp;done)|(go_simp;rfl));(case hp=>exact (Reps.one (show Kd.M Kd.string _ _ _ s1 [.string s1] from rfl) (Reps.none _ _)))
   intro v2 W3 g2 hb hg_ hnew_
   have n0_:=Aside0.mk (HD.out.grown hg_ hb (fun _ _ _ _=>by simp))
   have n1_:=Aside0.mk (g2)
   have n2_:=Aside0.mk (Kd.R_grown G1.out hg_ (fun _ _=>by simp))
   clear HD
   (try clear G2)
   (try clear G1)
   have HD:=n0_
   have G2:=n1_
   have G1:=n2_
   clear n0_ n1_ n2_
   clear g2 hb hg_ hnew_
   refine hK.out _ _ ⟨(blk_cell (HD.out.at_ 0 _ _ rfl) 0).trans rfl,(blk_cell (HD.out.at_ 0 _ _ rfl) 1).trans rfl⟩ (fun hHeld=>?_)
   clear hK K
   refine norm_ (a':=?_) ?_ ?_
   rotate_left
   ·show Act.put _ (some 40) _=_
    simp only [Act.put,List.setIfInBounds_toArray,List.set_cons_zero,List.set_cons_succ,i64_w]
    rfl
   exact norm_ (by simp only [putAll,Act.put,List.setIfInBounds_toArray,List.set_cons_zero,List.set_cons_succ]) (hCont (v1,v2) _ ⟨HD.out,G1.out,G2.out⟩)
  ·skip
   refine Kd.R_lit_step Kd.string (w0:=w) w.heap.size 9 ?hg (N:=40) ?hd (xs:=([s1]:List ByteArray)) (inner:=[.string s1]) (ok:=fun _=>True) (okp:=fun _=>True) ?hr ?hp (fun _ hk=>hk) trivial HD.out.bel HD.out.bel.size (by simp) ?_;(case hd=>rfl);(case hg=>rfl);(case hr=>first|(go_simp;done)|(go_simp;rfl));(case hp=>exact (Reps.one (show Kd.M Kd.string _ _ _ s1 [.string s1] from rfl) (Reps.none _ _)))
   intro v2 W2 g2 hb hg_ hnew_
   have n0_:=Aside0.mk (HD.out.grown hg_ hb (fun _ _ _ _=>by simp))
   have n1_:=Aside0.mk (g2)
   clear HD
   (try clear G2)
   have HD:=n0_
   have G2:=n1_
   clear n0_ n1_
   clear g2 hb hg_ hnew_
   refine hK.out _ _ ⟨(blk_cell (HD.out.at_ 0 _ _ rfl) 0).trans rfl,(blk_cell (HD.out.at_ 0 _ _ rfl) 1).trans rfl⟩ (fun hHeld=>?_)
   clear hK K
   refine norm_ (a':=?_) ?_ ?_
   rotate_left
   ·show Act.put _ (some 40) _=_
    simp only [Act.put,List.setIfInBounds_toArray,List.set_cons_zero,List.set_cons_succ,i64_w]
    rfl
   refine one_ (i:=4) (N:=some 38) (TF [7,2,4,2]) rfl rfl (by kernel_rfl) (by decide) (fun K hK=>?_)
   refine goes_ Tryd.func33 (by kernel_rfl) rfl #[.slice A0 l0.length c0] (by rfl) rfl rfl (by simp only [List.map_toArray,List.map_cons,List.map_nil];rfl) ?_
   with_reducible refine (slices_Clone_string_string.calls A0 c0 l0 l0 _ (Kd.C_below HR0.out HD.out.bel) HC0.out HCl.out).mono ?_
   rintro e W3 ⟨v1,rfl,g1,hb⟩
   refine ⟨_,rfl,?_⟩
   have n0_:=Aside0.mk (HD.out.below hb)
   have n1_:=Aside0.mk (Kd.R_lower g1 HD.out.bel.size)
   have n2_:=Aside0.mk (Kd.R_below G2.out hb)
   clear HD
   (try clear G1)
   (try clear G2)
   have HD:=n0_
   have G1:=n1_
   have G2:=n2_
   clear n0_ n1_ n2_
   clear g1 hb
   refine hK.out _ _ ⟨(blk_cell (HD.out.at_ 0 _ _ rfl) 0).trans rfl,(blk_cell (HD.out.at_ 0 _ _ rfl) 1).trans rfl⟩ (fun hHeld=>?_)
   clear hK K
   refine norm_ (a':=?_) ?_ ?_
   rotate_left
   ·show Act.put _ (some 38) _=_
    simp only [Act.put,List.setIfInBounds_toArray,List.set_cons_zero,List.set_cons_succ,i64_w]
    rfl
   exact norm_ (by simp only [putAll,Act.put,List.setIfInBounds_toArray,List.set_cons_zero,List.set_cons_succ]) (hCont (v1,v2) _ ⟨HD.out,G1.out,G2.out⟩)
 rintro ⟨v1,v2⟩ W5 ⟨d5,g1,g2⟩
 have n0_:=Aside0.mk (d5)
 have n1_:=Aside0.mk (g1)
 have n2_:=Aside0.mk (g2)
 clear HD
 (try clear G1)
 (try clear G2)
 have HD:=n0_
 have G1:=n1_
 have G2:=n2_
 clear n0_ n1_ n2_
 clear d5 g1 g2
 have hHeld:W5.cell? ⟨w.heap.size,0,none⟩=some (.int .i64 fl)∧W5.cell? ⟨w.heap.size,1,none⟩=some (.slice A0 l0.length c0):=⟨(blk_cell (HD.out.at_ 0 _ _ rfl) 0).trans rfl,(blk_cell (HD.out.at_ 0 _ _ rfl) 1).trans rfl⟩
 obtain ⟨Ax,cx,ex⟩:=Kd.R_slice G2.out
 subst ex
 refine norm_ (a':=?_) ?_ ?_
 rotate_left
 ·simp only [putAll,Act.put,List.setIfInBounds_toArray,List.set_cons_zero,List.set_cons_succ]
  rfl
 refine one_ (i:=7) (N:=some 41) (TF [8,1,4,2]) rfl rfl (by kernel_rfl) (by decide) (fun K hK=>?_)
 refine Kd.R_append_rows_step Kd.string (w0:=w) w.heap.size (by rfl) (.tmp 38) (.tmp 40) 31 9 (.string ⟨#[]⟩) 16 rfl Tryd.underlying31 info9 rfl (by decide) (by omega) v1 l0 [s1] _ _ _ (fun _=>True) (fun _=>False) rfl rfl G1.out ?aR (fun _ _ h=>h) (fun _ h=>h.elim) (fun _ _=>trivial) HD.out.bel HD.out.bel.size ?aL ?_
 (case aR=>exact (Kd.R_reads' G2.out).2.2)
 (case aL=>have:=LM.out;simp;omega)
 intro v3 W6 ho hb hg hat
 obtain ⟨y,hy⟩: ∃y:List ByteArray,y=l0++[s1]:=⟨_,rfl⟩
 rw [← hy] at ho
 have HY:=Aside0.mk hy
 clear hy
 have n0_:=Aside0.mk (HD.out.grown hg hb (HD.out.ne G1.out (Bx.types4 (by decide) (by decide) (by decide) (by decide))))
 have n1_:=Aside0.mk (ho)
 clear HD
 (try clear G3)
 have HD:=n0_
 have G3:=n1_
 clear n0_ n1_
 clear ho hb hg hat G1 G2
 obtain ⟨A3,c3,e3⟩:=Kd.R_slice G3.out
 subst e3
 have z20:W6.cell? ⟨w.heap.size+1+1,0,none⟩=some (.int .i64 0):=(blk_cell (HD.out.at_ 2 _ _ rfl) 0).trans rfl
 have y20:W6.frozen? ⟨w.heap.size+1+1,0,none⟩=false:=blk_frozen (HD.out.at_ 2 _ _ rfl) 0
 have z21:W6.cell? ⟨w.heap.size+1+1,1,none⟩=some (.slice none 0 0):=(blk_cell (HD.out.at_ 2 _ _ rfl) 1).trans rfl
 have y21:W6.frozen? ⟨w.heap.size+1+1,1,none⟩=false:=blk_frozen (HD.out.at_ 2 _ _ rfl) 1
 have z30:W6.cell? ⟨w.heap.size+1+1+1,0,none⟩=some (.int .i64 0):=(blk_cell (HD.out.at_ 3 _ _ rfl) 0).trans rfl
 have y30:W6.frozen? ⟨w.heap.size+1+1+1,0,none⟩=false:=blk_frozen (HD.out.at_ 3 _ _ rfl) 0
 have z31:W6.cell? ⟨w.heap.size+1+1+1,1,none⟩=some (.int .i64 0):=(blk_cell (HD.out.at_ 3 _ _ rfl) 1).trans rfl
 have y31:W6.frozen? ⟨w.heap.size+1+1+1,1,none⟩=false:=blk_frozen (HD.out.at_ 3 _ _ rfl) 1
 have z32:W6.cell? ⟨w.heap.size+1+1+1,2,none⟩=some (.int .i64 0):=(blk_cell (HD.out.at_ 3 _ _ rfl) 2).trans rfl
 have y32:W6.frozen? ⟨w.heap.size+1+1+1,2,none⟩=false:=blk_frozen (HD.out.at_ 3 _ _ rfl) 2
 have z33:W6.cell? ⟨w.heap.size+1+1+1,3,none⟩=some (.slice none 0 0):=(blk_cell (HD.out.at_ 3 _ _ rfl) 3).trans rfl
 have y33:W6.frozen? ⟨w.heap.size+1+1+1,3,none⟩=false:=blk_frozen (HD.out.at_ 3 _ _ rfl) 3
 have z34:W6.cell? ⟨w.heap.size+1+1+1,4,none⟩=some (.slice none 0 0):=(blk_cell (HD.out.at_ 3 _ _ rfl) 4).trans rfl
 have y34:W6.frozen? ⟨w.heap.size+1+1+1,4,none⟩=false:=blk_frozen (HD.out.at_ 3 _ _ rfl) 4
 refine hK.out _ _ ⟨(blk_cell (HD.out.at_ 0 _ _ rfl) 0).trans rfl,(blk_cell (HD.out.at_ 0 _ _ rfl) 1).trans rfl⟩ (fun hHeld=>?_)
 clear hK K
 refine norm_ (a':=?_) ?_ ?_
 rotate_left
 ·show Act.put _ (some 41) _=_
  simp only [Act.put,List.setIfInBounds_toArray,List.set_cons_zero,List.set_cons_succ,i64_w]
  rfl
 refine pure_ (i:=8) (N:=some 42) (v:=?_) (a':=?_) (TF [13,2]) rfl rfl (by kernel_rfl) (fun _ _ _ h=>h) (Or.inl ⟨by rfl,?_⟩) ?_ ?_
 rotate_left
 ·intro w'
  go_simp
  with_reducible rfl
 rotate_left
 ·simp only [Act.put,List.setIfInBounds_toArray,List.set_cons_zero,List.set_cons_succ,i64_w]
  rfl
 refine one_ (i:=13) (N:=none) (TF [14,1]) rfl rfl (by kernel_rfl) (by decide) (fun K hK=>?_)
 refine skip_ (w1:=?_) (by rfl) rfl ?_ ?_
 rotate_left
 ·go_simp
  rfl
 refine hK.out _ _ ⟨(cell_far (p:=⟨w.heap.size+1+1,_,none⟩) (show w.heap.size≠w.heap.size+1+1 by omega) _).trans ((cell_far (p:=⟨w.heap.size+1+1,_,none⟩) (show w.heap.size≠w.heap.size+1+1 by omega) _).trans (hHeld.1)),(cell_far (p:=⟨w.heap.size+1+1,_,none⟩) (show w.heap.size≠w.heap.size+1+1 by omega) _).trans ((cell_far (p:=⟨w.heap.size+1+1,_,none⟩) (show w.heap.size≠w.heap.size+1+1 by omega) _).trans (hHeld.2))⟩ (fun hHeld=>?_)
 clear hK K
 refine last_ (i:=14) (N:=none) (TF [15]) rfl rfl (by kernel_rfl) (by decide) (fun K hK=>?_)
 refine skip_ (w1:=?_) (by rfl) rfl ?_ ?_
 rotate_left
 ·go_simp
  rfl
 refine hK.out _ _ ?_
 clear hK K
 refine done_ (by kernel_rfl) ?_
 go_wp2
 have P:=put_res (HD.out.at_ 2 _ _ rfl) (HD.out.at_ 3 _ _ rfl) (by omega) (.int .i64 fl) (.slice A3 y.length c3) (.int .i64 0) (.int .i64 (l0.length:Int)) (.int .i64 fl) (.slice none 0 0) (.slice none 0 0)
 refine bodyPost_ret (results_cc rfl _ _ (w.heap.size+1+1) (w.heap.size+1+1+1) 36 39 #[.int .i64 fl, .slice A3 y.length c3] #[.int .i64 0, .int .i64 (l0.length:Int), .int .i64 fl, .slice none 0 0, .slice none 0 0] (0,0) (0,0) _ _ rfl P.1 Tryd.underlying36 rfl (by kernel_rfl) rfl P.2.1 Tryd.underlying39 rfl (by kernel_rfl)) rfl ?_
 refine ⟨_,_,_,rfl, .inr (by rw [← HY.out];exact R_only G3.out (HD.out.at_ 2 _ _ rfl) (HD.out.at_ 3 _ _ rfl) (by decide) (by decide) P.2.2),Kd.R_nil _ _ _ _ _,Kd.R_nil _ _ _ _ _,?_⟩
 iterate 7 refine below_set ?_ (by omega)
 exact HD.out.bel
def speech_Do.f (k:Nat) (fl:Int) (tr:List ByteArray) (kind gen:Int) (files:List S66):Option (Int × List ByteArray × Int × Int × Int × List S66 × List ByteArray):=
 if kind=1 then ((image_Of.f k files).bind fun s=>if s.2=0 then (if 32≤wrap64 ((tr.length:Int) - fl) then some (fl,tr,7,0,0,[],[]) else if tr.length < 8796093022207 then some (fl,tr++[s.1],0,(tr.length:Int),fl,[],[]) else none) else some (fl,tr,s.2,0,0,[],[]))
 else if kind=2 then ((speech_restore.f k fl tr (wrap64 ((tr.length:Int) - 1))).bind fun a=>some (fl,tr,a.1,a.2.1,a.2.2.1,a.2.2.2.1,a.2.2.2.2))
 else if kind=3 then (if gen < 0 then some (fl,tr,2,0,0,[],[]) else ((speech_restore.f k fl tr gen).bind fun a=>some (fl,tr,a.1,a.2.1,a.2.2.1,a.2.2.2.1,a.2.2.2.2)))
 else if kind=4 then some (fl,tr,0,(tr.length:Int),fl,[],[])
 else if kind=6 then some (fl,tr,0,(tr.length:Int),fl,[],[])
 else if kind=5 then (if gen < 0 then some (fl,tr,2,0,0,[],[]) else if gen≤fl then some (fl,tr,0,(tr.length:Int),fl,[],[]) else if (tr.length:Int)≤gen then some (fl,tr,2,0,0,[],[]) else some (gen,tr,0,(tr.length:Int),gen,[],[]))
 else some (fl,tr,1,0,0,[],[])
theorem bt_ (x y:Int) (h:x=y):(x == y)=true:=beq_iff_eq.mpr h
theorem bf_ (x y:Int) (h: ¬x=y):(x == y)=false:=beq_eq_false_iff_ne.mpr h
theorem nt_ (x y:Int) (h: ¬x=y):(x != y)=true:=bne_iff_ne.mpr h
theorem nf_ (x y:Int) (h:x=y):(x != y)=false:=bne_eq_false_iff_eq.mpr h
theorem speech_Do.calls (k:Nat) (fl:Int) (A0:Option Addr) (c0:Nat) (l0:List ByteArray) (kind gen:Int) (A1:Option Addr) (c1:Nat) (l1:List S66) (w:World) (hr0:Kd.C Kd.string w A0 l0.length l0) (hc0:l0.length≤c0) (hr1:Kd.C k66 w A1 l1.length l1) (hc1:l1.length≤c1) (r:Int × List ByteArray × Int × Int × Int × List S66 × List ByteArray) (h:speech_Do.f k fl l0 kind gen l1=some r):
  Calls Tryd.prog 18 #[.agg #[.int .i64 fl, .slice A0 l0.length c0], .agg #[.int .i64 kind, .int .i64 gen, .slice A1 l1.length c1]] w (DoPost w A0 c0 l0 r):=by
 unfold speech_Do.f at h
 by_cases h1:kind=1
 ·rw [if_pos h1] at h
  obtain ⟨⟨s1,e1⟩,hs,h⟩:=Option.bind_eq_some_iff.mp h
  replace h:(if e1=0 then (if 32≤wrap64 ((l0.length:Int) - fl) then some (fl,l0,7,0,0,[],[]) else if l0.length < 8796093022207 then some (fl,l0++[s1],0,(l0.length:Int),fl,[],[]) else none) else some (fl,l0,e1,0,0,[],[]))=some r:=h
  by_cases he:e1=0
  ·rw [if_pos he] at h
   by_cases hq:32≤wrap64 ((l0.length:Int) - fl)
   ·rw [if_pos hq] at h
    obtain rfl:=Option.some.inj h
    exact speech_Do.one_full k fl A0 c0 l0 kind gen A1 c1 l1 w hr0 hc0 hr1 hc1 s1 e1 hs (bt_ _ _ h1) (bt_ _ _ he) (nf_ _ _ he) (decide_eq_true hq)
   ·rw [if_neg hq] at h
    by_cases hl:l0.length < 8796093022207
    ·rw [if_pos hl] at h
     obtain rfl:=Option.some.inj h
     exact speech_Do.one_ok k fl A0 c0 l0 kind gen A1 c1 l1 w hr0 hc0 hr1 hc1 s1 e1 hs (bt_ _ _ h1) (bt_ _ _ he) (nf_ _ _ he) (decide_eq_false hq) hl
    ·rw [if_neg hl] at h
     exact absurd h (by simp)
  ·rw [if_neg he] at h
   obtain rfl:=Option.some.inj h
   exact speech_Do.one_err k fl A0 c0 l0 kind gen A1 c1 l1 w hr0 hc0 hr1 hc1 s1 e1 hs (bt_ _ _ h1) (bf_ _ _ he) (nt_ _ _ he)
 rw [if_neg h1] at h
 by_cases h2:kind=2
 ·rw [if_pos h2] at h
  obtain ⟨⟨a1,a2,a3,a4,a5⟩,hs,h⟩:=Option.bind_eq_some_iff.mp h
  obtain rfl:=Option.some.inj h
  exact speech_Do.two k fl A0 c0 l0 kind gen A1 c1 l1 w hr0 hc0 hr1 hc1 (bf_ _ _ h1) (bt_ _ _ h2) a1 a2 a3 a4 a5 hs
 rw [if_neg h2] at h
 by_cases h3:kind=3
 ·rw [if_pos h3] at h
  by_cases hg:gen < 0
  ·rw [if_pos hg] at h
   obtain rfl:=Option.some.inj h
   exact speech_Do.three_neg k fl A0 c0 l0 kind gen A1 c1 l1 w hr0 hc0 hr1 hc1 (bf_ _ _ h1) (bf_ _ _ h2) (bt_ _ _ h3) (decide_eq_true hg)
  ·rw [if_neg hg] at h
   obtain ⟨⟨a1,a2,a3,a4,a5⟩,hs,h⟩:=Option.bind_eq_some_iff.mp h
   obtain rfl:=Option.some.inj h
   exact speech_Do.three k fl A0 c0 l0 kind gen A1 c1 l1 w hr0 hc0 hr1 hc1 (bf_ _ _ h1) (bf_ _ _ h2) (bt_ _ _ h3) (decide_eq_false hg) a1 a2 a3 a4 a5 hs
 rw [if_neg h3] at h
 by_cases h4:kind=4
 ·rw [if_pos h4] at h
  obtain rfl:=Option.some.inj h
  exact speech_Do.four k fl A0 c0 l0 kind gen A1 c1 l1 w hr0 hc0 hr1 hc1 (bf_ _ _ h1) (bf_ _ _ h2) (bf_ _ _ h3) (bt_ _ _ h4)
 rw [if_neg h4] at h
 by_cases h6:kind=6
 ·rw [if_pos h6] at h
  obtain rfl:=Option.some.inj h
  exact speech_Do.six k fl A0 c0 l0 kind gen A1 c1 l1 w hr0 hc0 hr1 hc1 (bf_ _ _ h1) (bf_ _ _ h2) (bf_ _ _ h3) (bf_ _ _ h4) (bt_ _ _ h6)
 rw [if_neg h6] at h
 by_cases h5:kind=5
 ·rw [if_pos h5] at h
  by_cases hg:gen < 0
  ·rw [if_pos hg] at h
   obtain rfl:=Option.some.inj h
   exact speech_Do.five_neg k fl A0 c0 l0 kind gen A1 c1 l1 w hr0 hc0 hr1 hc1 (bf_ _ _ h1) (bf_ _ _ h2) (bf_ _ _ h3) (bf_ _ _ h4) (bf_ _ _ h6) (bt_ _ _ h5) (decide_eq_true hg)
  ·rw [if_neg hg] at h
   by_cases hf:gen≤fl
   ·rw [if_pos hf] at h
    obtain rfl:=Option.some.inj h
    exact speech_Do.five_low k fl A0 c0 l0 kind gen A1 c1 l1 w hr0 hc0 hr1 hc1 (bf_ _ _ h1) (bf_ _ _ h2) (bf_ _ _ h3) (bf_ _ _ h4) (bf_ _ _ h6) (bt_ _ _ h5) (decide_eq_false hg) (decide_eq_true hf)
   ·rw [if_neg hf] at h
    by_cases hn:(l0.length:Int)≤gen
    ·rw [if_pos hn] at h
     obtain rfl:=Option.some.inj h
     exact speech_Do.five_high k fl A0 c0 l0 kind gen A1 c1 l1 w hr0 hc0 hr1 hc1 (bf_ _ _ h1) (bf_ _ _ h2) (bf_ _ _ h3) (bf_ _ _ h4) (bf_ _ _ h6) (bt_ _ _ h5) (decide_eq_false hg) (decide_eq_false hf) (decide_eq_true hn)
    ·rw [if_neg hn] at h
     obtain rfl:=Option.some.inj h
     exact speech_Do.five_ok k fl A0 c0 l0 kind gen A1 c1 l1 w hr0 hc0 hr1 hc1 (bf_ _ _ h1) (bf_ _ _ h2) (bf_ _ _ h3) (bf_ _ _ h4) (bf_ _ _ h6) (bt_ _ _ h5) (decide_eq_false hg) (decide_eq_false hf) (decide_eq_false hn)
 ·rw [if_neg h5] at h
  obtain rfl:=Option.some.inj h
  exact speech_Do.dflt k fl A0 c0 l0 kind gen A1 c1 l1 w hr0 hc0 hr1 hc1 (bf_ _ _ h1) (bf_ _ _ h2) (bf_ _ _ h3) (bf_ _ _ h4) (bf_ _ _ h6) (bf_ _ _ h5)
end Go.Proofs.YthejnffhfmdpnaaDoor.Q

end

section
namespace Go.Proofs.YthejnffhfmdpnaaDoor.Q
open Go.RowKit Go.Proofs.YthejnffhfmdpnaaDoorW.PrintWords Go.Proofs.YthejnffhfmdpnaaDoorW.PrintLast Go.Proofs.YthejnffhfmdpnaaDoorW.PrintMore
attribute [local go_sem] min2_int min_two
set_option linter.unusedVariables false
set_option linter.unusedSimpArgs false
def barquelaw22_has.j0:Nat→Int→Bool→Int→List ByteArray→Option (Int × Int × Int × (List (S66)) × List ByteArray)
 |0,_,_,_,_=>none
 |k+1,x1,x14,x277000,x277001=>if x14=true then (some (18,0,0,([]:List (S66)),([]:List ByteArray))) else (if x1 < 0 then (some (8,0,0,([]:List (S66)),([]:List ByteArray))) else (if x1≥(x277001.length:Int) then (some (8,0,0,([]:List (S66)),([]:List ByteArray))) else (if 0≤x1 then (if x1 < (x277001.length:Int) then ((barqueref10_Tree.f k (rdOf ByteArray.empty x277001 x1)).bind fun bt279=>(some (0,x1,x277000,bt279.1,([]:List ByteArray)))) else (none)) else (none))))
def barquelaw22_has.f (k:Nat) (a0_0:Int) (l0_1:List ByteArray) (a1:Int):Option (Int × Int × Int × (List (S66)) × List ByteArray):=if a1≥0 then (barquelaw22_has.j0 k a1 (decide (a1 < a0_0)) a0_0 l0_1) else (barquelaw22_has.j0 k a1 false a0_0 l0_1)
set_option maxHeartbeats 8000000 in
set_option maxRecDepth 100000 in
theorem barquelaw22_has.calls (k:Nat) (a0_0:Int) (A0_1:Option Addr) (c0_1:Nat) (l0_1:List ByteArray) (a1:Int) (r1:Int) (r2:Int) (r3:Int) (r4:List (S66)) (r5:List ByteArray) (w:World) (hr0_1:Kd.C Kd.string w A0_1 l0_1.length l0_1) (hc0_1:l0_1.length≤c0_1) (h:barquelaw22_has.f k a0_0 l0_1 a1=some (r1,r2,r3,r4,r5)):
  Calls Tryd.prog 31 #[.agg #[.int .i64 a0_0, .slice A0_1 l0_1.length c0_1], .int .i64 a1] w fun e w'=> ∃v3_ v4_:Value,e= .returned (.agg #[.int .i64 r1, .int .i64 r2, .int .i64 r3,v3_,v4_])∧Kd.R k66 66 w' w.heap.size (fun _=>True) v3_ r4∧Kd.R Kd.string 9 w' w.heap.size (fun _=>True) v4_ r5∧Below w.heap.size w w':=by
 have hu33:=Tryd.underlying33
 have hu39:=Tryd.underlying39
 have HR0_1:=Aside0.mk hr0_1
 have HC0_1:=Aside0.mk hc0_1
 clear hr0_1 hc0_1
 have HB:=Aside0.mk (Below.refl w.heap.size w)
 have H:(if a1≥0 then (barquelaw22_has.j0 k a1 (decide (a1 < a0_0)) a0_0 l0_1) else (barquelaw22_has.j0 k a1 false a0_0 l0_1))=some (r1,r2,r3,r4,r5):=h
 clear h
 have HC3:=Aside0.mk H
 clear H
 go_enter Tryd.func31,Tryd.ntmps31
 go_upto_region 1 with (first|((with_reducible refine gate_dst (N:=2) rfl ?_);(try (refine gate_guard (by rfl) ?_;dsimp only));refine box_event ?hg (N:=2) ?hd (cs:=#[.int .i64 a0_0, .slice A0_1 l0_1.length c0_1]) (t:=33) ?hr ?_;(case hd=>rfl);(case hg=>rfl);(case hr=>first|(go_simp;done)|(go_simp;rfl));intro gb276 hg w4 hbox hb;have n0_:=Aside0.mk (below_step (by repeat (first|(with_reducible first|exact HB.out|apply below_alloc|apply pw_below_drewN|apply below_drew1)|exact HB.out)) hb);have n1_:=Aside0.mk (hbox);have n2_:=Aside0.mk ((by rw [hg];exact (below_size (by repeat (first|(with_reducible first|exact HB.out|apply below_alloc|apply pw_below_drewN|apply below_drew1)|exact HB.out))):w.heap.size≤gb276));have n3_:=Aside0.mk ((by rw [hg];exact (below_size (by repeat (first|(with_reducible first|exact HB.out|apply below_alloc|apply pw_below_drewN|apply below_drew1)|exact HB.out))):w.heap.size≤gb276));clear HB;have HB:=n0_;have BK276:=n1_;have GW276:=n2_;have GE276:=n3_;clear n0_ n1_ n2_ n3_;clear hb hbox hg)|((with_reducible refine gate_dst (N:=4) rfl ?_);(try (refine gate_guard (by rfl) ?_;dsimp only));refine box_event ?hg (N:=4) ?hd (cs:=#[.int .i64 0, .int .i64 0, .int .i64 0, .slice none 0 0, .slice none 0 0]) (t:=39) ?hr ?_;(case hd=>rfl);(case hg=>rfl);(case hr=>first|(go_simp;done)|(go_simp;rfl));intro gb277 hg w5 hbox hb;have n0_:=Aside0.mk (blk_below (g:=gb276) (o:= .cells #[.int .i64 a0_0, .slice A0_1 l0_1.length c0_1] 33 (0,0)) (by (with_reducible repeat (first|refine blk_drewN ?_ _|refine blk_drew ?_|refine blk_alloc ?_ _));exact BK276.out) hb);have n1_:=Aside0.mk (below_step (by repeat (first|(with_reducible first|exact HB.out|apply below_alloc|apply pw_below_drewN|apply below_drew1|refine below_set ?_ GE276.out)|exact HB.out)) hb);have n2_:=Aside0.mk (hbox);have n3_:=Aside0.mk ((by rw [hg];exact (below_size (by repeat (first|(with_reducible first|exact HB.out|apply below_alloc|apply pw_below_drewN|apply below_drew1|refine below_set ?_ GE276.out)|exact HB.out))):w.heap.size≤gb277));have n4_:=Aside0.mk ((by rw [hg];exact (below_size (by repeat (first|(with_reducible first|exact HB.out|apply below_alloc|apply pw_below_drewN|apply below_drew1|refine below_set ?_ GE276.out)|exact HB.out))):w.heap.size≤gb277));have n5_:=Aside0.mk ((by rw [hg];exact Nat.ne_of_lt (blk_lt (g:=gb276) (o:= .cells #[.int .i64 a0_0, .slice A0_1 l0_1.length c0_1] 33 (0,0)) (by (with_reducible repeat (first|refine blk_drewN ?_ _|refine blk_drew ?_|refine blk_alloc ?_ _));exact BK276.out)):gb276≠gb277));have n6_:=Aside0.mk ((by rw [hg];exact Nat.ne_of_gt (blk_lt (g:=gb276) (o:= .cells #[.int .i64 a0_0, .slice A0_1 l0_1.length c0_1] 33 (0,0)) (by (with_reducible repeat (first|refine blk_drewN ?_ _|refine blk_drew ?_|refine blk_alloc ?_ _));exact BK276.out)):gb277≠gb276));clear BK276;clear HB;have BK276:=n0_;have HB:=n1_;have BK277:=n2_;have GW277:=n3_;have GE277:=n4_;have NB276_277:=n5_;have NB277_276:=n6_;clear n0_ n1_ n2_ n3_ n4_ n5_ n6_;clear hb hbox hg))
 (try simp only [Act.put,List.setIfInBounds_toArray,List.set_cons_zero,List.set_cons_succ])
 go_cut [14] (fun v14 wc=> ∃(kq:Nat) (x14_2:Bool),v14= .bool x14_2∧Aside0 (barquelaw22_has.j0 kq a1 x14_2 a0_0 l0_1=some (r1,r2,r3,r4,r5))∧Aside0 (kq≤k)∧Aside0 (wc.heap[gb276]? =some (.cells #[.int .i64 a0_0,(.slice A0_1 l0_1.length c0_1)] 33 (0,0)))∧Aside0 (wc.heap[gb277]? =some (.cells #[.int .i64 0, .int .i64 0, .int .i64 0,(.slice none 0 0),(.slice none 0 0)] 39 (0,0)))∧Aside0 (Below w.heap.size w wc))
 case first=>
  have H:=HC3.out
  clear HC3
  by_cases c6:a1≥0
  ·rw [if_pos c6] at H
   have c6b0:decide (0≤a1)=true:=decide_eq_true c6
   clear c6
   (first|rw [c6b0]|(simp only [i64_w];rw [c6b0])|skip)
   have H':=Aside0.mk H
   clear H
   have hnb7:=NB276_277.out
   have hnc7:=NB277_276.out
   have hcz8_0:w5.cell? ⟨gb276,0,none⟩=some (.int .i64 a0_0):=(blk_cell BK276.out 0).trans rfl
   have hcz8_1:w5.cell? ⟨gb276,1,none⟩=some (.slice A0_1 l0_1.length c0_1):=(blk_cell BK276.out 1).trans rfl
   have hfz8_0:=blk_frozen BK276.out 0
   have hfz8_1:=blk_frozen BK276.out 1
   go_wp2
   go_meet
   case rel=>exact ⟨_,(decide (a1 < a0_0)),(by first|rfl|(simp;done)|(simp [*];done)),H',⟨by first|omega|exact Nat.le_refl _⟩,⟨by (with_reducible repeat (first|refine blk_drewN ?_ _|refine blk_drew ?_|refine blk_alloc ?_ _));exact BK276.out⟩,⟨by (with_reducible repeat (first|refine blk_drewN ?_ _|refine blk_drew ?_|refine blk_alloc ?_ _));exact BK277.out⟩,⟨by repeat (first|(with_reducible first|exact HB.out|apply below_alloc|apply pw_below_drewN|apply below_drew1|refine below_set ?_ GE276.out|refine below_set ?_ GE277.out)|exact HB.out)⟩⟩
  ·rw [if_neg c6] at H
   have c6b0:decide (0≤a1)=false:=decide_eq_false c6
   clear c6
   (first|rw [c6b0]|(simp only [i64_w];rw [c6b0])|skip)
   have H':=Aside0.mk H
   clear H
   go_wp2
   go_meet
   case rel=>exact ⟨_,(false),(by first|rfl|(simp;done)|(simp [*];done)),H',⟨by first|omega|exact Nat.le_refl _⟩,⟨by (with_reducible repeat (first|refine blk_drewN ?_ _|refine blk_drew ?_|refine blk_alloc ?_ _));exact BK276.out⟩,⟨by (with_reducible repeat (first|refine blk_drewN ?_ _|refine blk_drew ?_|refine blk_alloc ?_ _));exact BK277.out⟩,⟨by repeat (first|(with_reducible first|exact HB.out|apply below_alloc|apply pw_below_drewN|apply below_drew1|refine below_set ?_ GE276.out|refine below_set ?_ GE277.out)|exact HB.out)⟩⟩
 case rest=>
  clear HC3
  obtain ⟨kq,x14_2,rfl,HA,HJ2,BK276,BK277,HB⟩:=hcut
  cases kq with
  |zero=>exact absurd HA.out (by simp [barquelaw22_has.j0])
  |succ kj2=>
   have H:=HA.out
   clear HA
   simp only [barquelaw22_has.j0] at H
   by_cases c9:x14_2=true
   ·subst c9
    have H1:(some (18,0,0,([]:List (S66)),([]:List ByteArray)))=some (r1,r2,r3,r4,r5):=by rw [if_pos rfl] at H;exact H
    clear H
    have H:=H1
    clear H1
    simp only [Option.some.injEq,Prod.mk.injEq] at H
    obtain ⟨rfl,rfl,rfl,rfl,rfl⟩:=H
    have hnb10:=NB277_276.out
    have hnc10:=NB276_277.out
    have hcz11_0:wc.cell? ⟨gb277,0,none⟩=some (.int .i64 0):=(blk_cell BK277.out 0).trans rfl
    have hcz11_1:wc.cell? ⟨gb277,1,none⟩=some (.int .i64 0):=(blk_cell BK277.out 1).trans rfl
    have hcz11_2:wc.cell? ⟨gb277,2,none⟩=some (.int .i64 0):=(blk_cell BK277.out 2).trans rfl
    have hcz11_3:wc.cell? ⟨gb277,3,none⟩=some (.slice none 0 0):=(blk_cell BK277.out 3).trans rfl
    have hcz11_4:wc.cell? ⟨gb277,4,none⟩=some (.slice none 0 0):=(blk_cell BK277.out 4).trans rfl
    have hfz11_0:=blk_frozen BK277.out 0
    have hfz11_1:=blk_frozen BK277.out 1
    have hfz11_2:=blk_frozen BK277.out 2
    have hfz11_3:=blk_frozen BK277.out 3
    have hfz11_4:=blk_frozen BK277.out 4
    go_wp2
    refine bodyPost_ret (results_cell_row rfl _ _ gb277 39 #[.int .i64 18, .int .i64 0, .int .i64 0, .slice none 0 0, .slice none 0 0] (0,0) _ rfl (by (with_reducible repeat (first|refine blk_drewN ?_ _|refine blk_drew ?_|refine blk_alloc ?_ _));refine blk_put (cs:=#[.int .i64 18, .int .i64 0, .int .i64 0, .slice none 0 0, .slice none 0 0]) ?_ 4 _ rfl;(with_reducible repeat (first|refine blk_drewN ?_ _|refine blk_drew ?_|refine blk_alloc ?_ _));refine blk_put (cs:=#[.int .i64 18, .int .i64 0, .int .i64 0, .slice none 0 0, .slice none 0 0]) ?_ 3 _ rfl;(with_reducible repeat (first|refine blk_drewN ?_ _|refine blk_drew ?_|refine blk_alloc ?_ _));refine blk_put (cs:=#[.int .i64 18, .int .i64 0, .int .i64 0, .slice none 0 0, .slice none 0 0]) ?_ 2 _ rfl;(with_reducible repeat (first|refine blk_drewN ?_ _|refine blk_drew ?_|refine blk_alloc ?_ _));refine blk_put (cs:=#[.int .i64 18, .int .i64 0, .int .i64 0, .slice none 0 0, .slice none 0 0]) ?_ 1 _ rfl;(with_reducible repeat (first|refine blk_drewN ?_ _|refine blk_drew ?_|refine blk_alloc ?_ _));refine blk_put (cs:=#[.int .i64 0, .int .i64 0, .int .i64 0, .slice none 0 0, .slice none 0 0]) ?_ 0 _ rfl;(with_reducible repeat (first|refine blk_drewN ?_ _|refine blk_drew ?_|refine blk_alloc ?_ _));exact BK277.out) Tryd.underlying39 rfl (by kernel_rfl)) rfl ?_
    exact ⟨_,_,by first|rfl|(simp [errW_none]<;>rfl)|(simp [*]<;>rfl),by first|exact Kd.R_nil _ _ _ _ _|exact Kd.N_nil _ _ _ _ _|exact Kd.V_nil _ _ _ _ _|exact Kd.Q_nil _ _ _ _ _|exact Kd.S_nil _ _ _ _ _,by first|exact Kd.R_nil _ _ _ _ _|exact Kd.N_nil _ _ _ _ _|exact Kd.V_nil _ _ _ _ _|exact Kd.Q_nil _ _ _ _ _|exact Kd.S_nil _ _ _ _ _,by repeat (first|(with_reducible first|exact HB.out|apply below_alloc|apply pw_below_drewN|apply below_drew1|refine below_set ?_ GE276.out|refine below_set ?_ GE277.out)|exact HB.out)⟩
   ·replace c9:=Bool.eq_false_iff.mpr c9
    subst c9
    have H1:(if a1 < 0 then (some (8,0,0,([]:List (S66)),([]:List ByteArray))) else (if a1≥(l0_1.length:Int) then (some (8,0,0,([]:List (S66)),([]:List ByteArray))) else (if 0≤a1 then (if a1 < (l0_1.length:Int) then ((barqueref10_Tree.f kj2 (rdOf ByteArray.empty l0_1 a1)).bind fun bt279=>(some (0,a1,a0_0,bt279.1,([]:List ByteArray)))) else (none)) else (none))))=some (r1,r2,r3,r4,r5):=by rw [if_neg (show ¬(false=true) by decide)] at H;exact H
    clear H
    have H:=H1
    clear H1
    by_cases c12:a1 < 0
    ·rw [if_pos c12] at H
     have c12b0:decide (a1 < 0)=true:=decide_eq_true c12
     clear c12
     simp only [Option.some.injEq,Prod.mk.injEq] at H
     obtain ⟨rfl,rfl,rfl,rfl,rfl⟩:=H
     have hnb13:=NB277_276.out
     have hnc13:=NB276_277.out
     have hcz14_0:wc.cell? ⟨gb277,0,none⟩=some (.int .i64 0):=(blk_cell BK277.out 0).trans rfl
     have hcz14_1:wc.cell? ⟨gb277,1,none⟩=some (.int .i64 0):=(blk_cell BK277.out 1).trans rfl
     have hcz14_2:wc.cell? ⟨gb277,2,none⟩=some (.int .i64 0):=(blk_cell BK277.out 2).trans rfl
     have hcz14_3:wc.cell? ⟨gb277,3,none⟩=some (.slice none 0 0):=(blk_cell BK277.out 3).trans rfl
     have hcz14_4:wc.cell? ⟨gb277,4,none⟩=some (.slice none 0 0):=(blk_cell BK277.out 4).trans rfl
     have hfz14_0:=blk_frozen BK277.out 0
     have hfz14_1:=blk_frozen BK277.out 1
     have hfz14_2:=blk_frozen BK277.out 2
     have hfz14_3:=blk_frozen BK277.out 3
     have hfz14_4:=blk_frozen BK277.out 4
     go_wp2
     refine bodyPost_ret (results_cell_row rfl _ _ gb277 39 #[.int .i64 8, .int .i64 0, .int .i64 0, .slice none 0 0, .slice none 0 0] (0,0) _ rfl (by (with_reducible repeat (first|refine blk_drewN ?_ _|refine blk_drew ?_|refine blk_alloc ?_ _));refine blk_put (cs:=#[.int .i64 8, .int .i64 0, .int .i64 0, .slice none 0 0, .slice none 0 0]) ?_ 4 _ rfl;(with_reducible repeat (first|refine blk_drewN ?_ _|refine blk_drew ?_|refine blk_alloc ?_ _));refine blk_put (cs:=#[.int .i64 8, .int .i64 0, .int .i64 0, .slice none 0 0, .slice none 0 0]) ?_ 3 _ rfl;(with_reducible repeat (first|refine blk_drewN ?_ _|refine blk_drew ?_|refine blk_alloc ?_ _));refine blk_put (cs:=#[.int .i64 8, .int .i64 0, .int .i64 0, .slice none 0 0, .slice none 0 0]) ?_ 2 _ rfl;(with_reducible repeat (first|refine blk_drewN ?_ _|refine blk_drew ?_|refine blk_alloc ?_ _));refine blk_put (cs:=#[.int .i64 8, .int .i64 0, .int .i64 0, .slice none 0 0, .slice none 0 0]) ?_ 1 _ rfl;(with_reducible repeat (first|refine blk_drewN ?_ _|refine blk_drew ?_|refine blk_alloc ?_ _));refine blk_put (cs:=#[.int .i64 0, .int .i64 0, .int .i64 0, .slice none 0 0, .slice none 0 0]) ?_ 0 _ rfl;(with_reducible repeat (first|refine blk_drewN ?_ _|refine blk_drew ?_|refine blk_alloc ?_ _));exact BK277.out) Tryd.underlying39 rfl (by kernel_rfl)) rfl ?_
     exact ⟨_,_,by first|rfl|(simp [errW_none]<;>rfl)|(simp [*]<;>rfl),by first|exact Kd.R_nil _ _ _ _ _|exact Kd.N_nil _ _ _ _ _|exact Kd.V_nil _ _ _ _ _|exact Kd.Q_nil _ _ _ _ _|exact Kd.S_nil _ _ _ _ _,by first|exact Kd.R_nil _ _ _ _ _|exact Kd.N_nil _ _ _ _ _|exact Kd.V_nil _ _ _ _ _|exact Kd.Q_nil _ _ _ _ _|exact Kd.S_nil _ _ _ _ _,by repeat (first|(with_reducible first|exact HB.out|apply below_alloc|apply pw_below_drewN|apply below_drew1|refine below_set ?_ GE276.out|refine below_set ?_ GE277.out)|exact HB.out)⟩
    ·rw [if_neg c12] at H
     have c12b0:decide (a1 < 0)=false:=decide_eq_false c12
     clear c12
     by_cases c15:a1≥(l0_1.length:Int)
     ·rw [if_pos c15] at H
      have c15b0:decide ((l0_1.length:Int)≤a1)=true:=decide_eq_true c15
      clear c15
      simp only [Option.some.injEq,Prod.mk.injEq] at H
      obtain ⟨rfl,rfl,rfl,rfl,rfl⟩:=H
      have hnb16:=NB276_277.out
      have hnc16:=NB277_276.out
      have hcz17_0:wc.cell? ⟨gb276,0,none⟩=some (.int .i64 a0_0):=(blk_cell BK276.out 0).trans rfl
      have hcz17_1:wc.cell? ⟨gb276,1,none⟩=some (.slice A0_1 l0_1.length c0_1):=(blk_cell BK276.out 1).trans rfl
      have hfz17_0:=blk_frozen BK276.out 0
      have hfz17_1:=blk_frozen BK276.out 1
      have hcz18_0:wc.cell? ⟨gb277,0,none⟩=some (.int .i64 0):=(blk_cell BK277.out 0).trans rfl
      have hcz18_1:wc.cell? ⟨gb277,1,none⟩=some (.int .i64 0):=(blk_cell BK277.out 1).trans rfl
      have hcz18_2:wc.cell? ⟨gb277,2,none⟩=some (.int .i64 0):=(blk_cell BK277.out 2).trans rfl
      have hcz18_3:wc.cell? ⟨gb277,3,none⟩=some (.slice none 0 0):=(blk_cell BK277.out 3).trans rfl
      have hcz18_4:wc.cell? ⟨gb277,4,none⟩=some (.slice none 0 0):=(blk_cell BK277.out 4).trans rfl
      have hfz18_0:=blk_frozen BK277.out 0
      have hfz18_1:=blk_frozen BK277.out 1
      have hfz18_2:=blk_frozen BK277.out 2
      have hfz18_3:=blk_frozen BK277.out 3
      have hfz18_4:=blk_frozen BK277.out 4
      go_wp2
      refine bodyPost_ret (results_cell_row rfl _ _ gb277 39 #[.int .i64 8, .int .i64 0, .int .i64 0, .slice none 0 0, .slice none 0 0] (0,0) _ rfl (by (with_reducible repeat (first|refine blk_drewN ?_ _|refine blk_drew ?_|refine blk_alloc ?_ _));refine blk_put (cs:=#[.int .i64 8, .int .i64 0, .int .i64 0, .slice none 0 0, .slice none 0 0]) ?_ 4 _ rfl;(with_reducible repeat (first|refine blk_drewN ?_ _|refine blk_drew ?_|refine blk_alloc ?_ _));refine blk_put (cs:=#[.int .i64 8, .int .i64 0, .int .i64 0, .slice none 0 0, .slice none 0 0]) ?_ 3 _ rfl;(with_reducible repeat (first|refine blk_drewN ?_ _|refine blk_drew ?_|refine blk_alloc ?_ _));refine blk_put (cs:=#[.int .i64 8, .int .i64 0, .int .i64 0, .slice none 0 0, .slice none 0 0]) ?_ 2 _ rfl;(with_reducible repeat (first|refine blk_drewN ?_ _|refine blk_drew ?_|refine blk_alloc ?_ _));refine blk_put (cs:=#[.int .i64 8, .int .i64 0, .int .i64 0, .slice none 0 0, .slice none 0 0]) ?_ 1 _ rfl;(with_reducible repeat (first|refine blk_drewN ?_ _|refine blk_drew ?_|refine blk_alloc ?_ _));refine blk_put (cs:=#[.int .i64 0, .int .i64 0, .int .i64 0, .slice none 0 0, .slice none 0 0]) ?_ 0 _ rfl;(with_reducible repeat (first|refine blk_drewN ?_ _|refine blk_drew ?_|refine blk_alloc ?_ _));exact BK277.out) Tryd.underlying39 rfl (by kernel_rfl)) rfl ?_
      exact ⟨_,_,by first|rfl|(simp [errW_none]<;>rfl)|(simp [*]<;>rfl),by first|exact Kd.R_nil _ _ _ _ _|exact Kd.N_nil _ _ _ _ _|exact Kd.V_nil _ _ _ _ _|exact Kd.Q_nil _ _ _ _ _|exact Kd.S_nil _ _ _ _ _,by first|exact Kd.R_nil _ _ _ _ _|exact Kd.N_nil _ _ _ _ _|exact Kd.V_nil _ _ _ _ _|exact Kd.Q_nil _ _ _ _ _|exact Kd.S_nil _ _ _ _ _,by repeat (first|(with_reducible first|exact HB.out|apply below_alloc|apply pw_below_drewN|apply below_drew1|refine below_set ?_ GE276.out|refine below_set ?_ GE277.out)|exact HB.out)⟩
     ·rw [if_neg c15] at H
      have c15b0:decide ((l0_1.length:Int)≤a1)=false:=decide_eq_false c15
      clear c15
      by_cases c19:0≤a1
      ·rw [if_pos c19] at H
       have c19b0:decide (0≤a1)=true:=decide_eq_true c19
       clear c19
       by_cases c20:a1 < (l0_1.length:Int)
       ·rw [if_pos c20] at H
        have c20b0:decide (a1 < (l0_1.length:Int))=true:=decide_eq_true c20
        clear c20
        replace H:=Option.bind_eq_some_iff.mp H
        obtain ⟨⟨t279,t280⟩,A210,H⟩:=H
        replace H:(some (0,a1,a0_0,t279,([]:List ByteArray)))=some (r1,r2,r3,r4,r5):=H
        have A21:=Aside0.mk A210
        clear A210
        simp only [Option.some.injEq,Prod.mk.injEq] at H
        obtain ⟨rfl,rfl,rfl,rfl,rfl⟩:=H
        have hnb22:=NB276_277.out
        have hnc22:=NB277_276.out
        have hcz23_0:wc.cell? ⟨gb276,0,none⟩=some (.int .i64 a0_0):=(blk_cell BK276.out 0).trans rfl
        have hcz23_1:wc.cell? ⟨gb276,1,none⟩=some (.slice A0_1 l0_1.length c0_1):=(blk_cell BK276.out 1).trans rfl
        have hfz23_0:=blk_frozen BK276.out 0
        have hfz23_1:=blk_frozen BK276.out 1
        have p278:0≤(a1:Int):=of_decide_eq_true (by assumption)
        have q278:a1 < (l0_1.length:Int):=of_decide_eq_true (by assumption)
        obtain ⟨ad278,e278,hx278_0⟩:=Kd.at_string HR0_1.out a1 p278 q278
        cases e278
        replace hx278_0:=(HB.out.cell (World.block_lt_of_cell? w _ hx278_0)).trans hx278_0
        replace p278:=eq_true p278
        replace q278:=eq_true q278
        go_wp2_with (first|((with_reducible refine gate_callee (f:=45) rfl ?_);refine goesL_ (some 32) rfl rfl Tryd.func45 (by kernel_rfl) rfl #[.string (rdOf ByteArray.empty l0_1 a1)] rfl (by (try simp only [List.map_toArray,List.map_cons,List.map_nil]);try rfl) ?_;(with_reducible refine (barqueref10_Tree.calls kj2 (rdOf ByteArray.empty l0_1 a1) t279 t280 _ A21.out).mono ?_);rintro e w24 ⟨v281,rfl,ho0,hb⟩;refine ⟨_,rfl,?_⟩;have n0_:=Aside0.mk (Kd.R_lower ho0 (below_size (by repeat (first|(with_reducible first|exact HB.out|apply below_alloc|apply pw_below_drewN|apply below_drew1|refine below_set ?_ GE276.out|refine below_set ?_ GE277.out)|exact HB.out))));have n1_:=Aside0.mk (blk_below (g:=gb276) (o:= .cells #[.int .i64 a0_0, .slice (some ad278) l0_1.length c0_1] 33 (0,0)) (by (with_reducible repeat (first|refine blk_drewN ?_ _|refine blk_drew ?_|refine blk_alloc ?_ _));exact BK276.out) hb);have n2_:=Aside0.mk (blk_below (g:=gb277) (o:= .cells #[.int .i64 0, .int .i64 0, .int .i64 0, .slice none 0 0, .slice none 0 0] 39 (0,0)) (by (with_reducible repeat (first|refine blk_drewN ?_ _|refine blk_drew ?_|refine blk_alloc ?_ _));exact BK277.out) hb);have n3_:=Aside0.mk (below_step (by repeat (first|(with_reducible first|exact HB.out|apply below_alloc|apply pw_below_drewN|apply below_drew1|refine below_set ?_ GE276.out|refine below_set ?_ GE277.out)|exact HB.out)) hb);clear BK276;clear BK277;clear HB;have HO282:=n0_;have BK276:=n1_;have BK277:=n2_;have HB:=n3_;clear n0_ n1_ n2_ n3_;have hcz25_0:w24.cell? ⟨gb276,0,none⟩=some (.int .i64 a0_0):=(blk_cell BK276.out 0).trans rfl;have hcz25_1:w24.cell? ⟨gb276,1,none⟩=some (.slice (some ad278) l0_1.length c0_1):=(blk_cell BK276.out 1).trans rfl;have hfz25_0:=blk_frozen BK276.out 0;have hfz25_1:=blk_frozen BK276.out 1;obtain ⟨Ao26,co26,eo26⟩:=Kd.R_slice HO282.out;subst eo26;have hcz27_0:w24.cell? ⟨gb277,0,none⟩=some (.int .i64 0):=(blk_cell BK277.out 0).trans rfl;have hcz27_1:w24.cell? ⟨gb277,1,none⟩=some (.int .i64 0):=(blk_cell BK277.out 1).trans rfl;have hcz27_2:w24.cell? ⟨gb277,2,none⟩=some (.int .i64 0):=(blk_cell BK277.out 2).trans rfl;have hcz27_3:w24.cell? ⟨gb277,3,none⟩=some (.slice none 0 0):=(blk_cell BK277.out 3).trans rfl;have hcz27_4:w24.cell? ⟨gb277,4,none⟩=some (.slice none 0 0):=(blk_cell BK277.out 4).trans rfl;have hfz27_0:=blk_frozen BK277.out 0;have hfz27_1:=blk_frozen BK277.out 1;have hfz27_2:=blk_frozen BK277.out 2;have hfz27_3:=blk_frozen BK277.out 3;have hfz27_4:=blk_frozen BK277.out 4))
        refine bodyPost_ret (results_cell_row rfl _ _ gb277 39 #[.int .i64 0, .int .i64 a1, .int .i64 a0_0, .slice Ao26 t279.length co26, .slice none 0 0] (0,0) _ rfl (by (with_reducible repeat (first|refine blk_drewN ?_ _|refine blk_drew ?_|refine blk_alloc ?_ _));refine blk_put (cs:=#[.int .i64 0, .int .i64 a1, .int .i64 a0_0, .slice Ao26 t279.length co26, .slice none 0 0]) ?_ 4 _ rfl;(with_reducible repeat (first|refine blk_drewN ?_ _|refine blk_drew ?_|refine blk_alloc ?_ _));refine blk_put (cs:=#[.int .i64 0, .int .i64 a1, .int .i64 a0_0, .slice none 0 0, .slice none 0 0]) ?_ 3 _ rfl;(with_reducible repeat (first|refine blk_drewN ?_ _|refine blk_drew ?_|refine blk_alloc ?_ _));refine blk_put (cs:=#[.int .i64 0, .int .i64 a1, .int .i64 0, .slice none 0 0, .slice none 0 0]) ?_ 2 _ rfl;(with_reducible repeat (first|refine blk_drewN ?_ _|refine blk_drew ?_|refine blk_alloc ?_ _));refine blk_put (cs:=#[.int .i64 0, .int .i64 0, .int .i64 0, .slice none 0 0, .slice none 0 0]) ?_ 1 _ rfl;(with_reducible repeat (first|refine blk_drewN ?_ _|refine blk_drew ?_|refine blk_alloc ?_ _));refine blk_put (cs:=#[.int .i64 0, .int .i64 0, .int .i64 0, .slice none 0 0, .slice none 0 0]) ?_ 0 _ rfl;(with_reducible repeat (first|refine blk_drewN ?_ _|refine blk_drew ?_|refine blk_alloc ?_ _));exact BK277.out) Tryd.underlying39 rfl (by kernel_rfl)) rfl ?_
        exact ⟨_,_,by first|rfl|(simp [errW_none]<;>rfl)|(simp [*]<;>rfl),by (with_reducible repeat (first|apply Kd.R_alloc|apply Kd.R_drewN|apply Kd.R_drew));exact Kd.R_mono (Kd.R_far (p:=⟨gb277,4,none⟩) (Kd.R_far (p:=⟨gb277,3,none⟩) (Kd.R_far (p:=⟨gb277,2,none⟩) (Kd.R_far (p:=⟨gb277,1,none⟩) (Kd.R_far (p:=⟨gb277,0,none⟩) (Kd.R_types HO282.out BK277.out (by decide)) (fun _ hk=>hk.2) (.int .i64 0)) (fun _ hk=>hk.2) (.int .i64 a1)) (fun _ hk=>hk.2) (.int .i64 a0_0)) (fun _ hk=>hk.2) (.slice Ao26 t279.length co26)) (fun _ hk=>hk.2) (.slice none 0 0)) (fun _ hk=>trivial),by first|exact Kd.R_nil _ _ _ _ _|exact Kd.N_nil _ _ _ _ _|exact Kd.V_nil _ _ _ _ _|exact Kd.Q_nil _ _ _ _ _|exact Kd.S_nil _ _ _ _ _,by repeat (first|(with_reducible first|exact HB.out|apply below_alloc|apply pw_below_drewN|apply below_drew1|refine below_set ?_ GE276.out|refine below_set ?_ GE277.out)|exact HB.out)⟩
       ·rw [if_neg c20] at H
        exact absurd H (by simp)
      ·rw [if_neg c19] at H
       exact absurd H (by simp)
end Go.Proofs.YthejnffhfmdpnaaDoor.Q

end
