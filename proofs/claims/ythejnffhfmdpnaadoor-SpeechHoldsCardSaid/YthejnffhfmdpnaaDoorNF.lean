/- Texts of this claim, in one file. -/
import Derived.BigRegion
import Derived.Test.YthejnffhfmdpnaaDoorNE
section
namespace Go.Proofs.YthejnffhfmdpnaaDoor.Spec
set_option linter.unusedVariables false
open Go.RowKit Go.Proofs.YthejnffhfmdpnaaDoor.Q Go.Proofs.YthejnffhfmdpnaaDoorW.PrintWords Go.Proofs.YthejnffhfmdpnaaDoorW.PrintLast Go.Proofs.YthejnffhfmdpnaaDoorW.PrintMore
def fileR (s:ByteArray) (p:Nat):(S66 × Int) × Nat × Int:=
 let t:=rText s p 0 200
 let m:=rNum s t.2.1 t.2.2
 let z:=rCount s m.2.1 m.2.2 65536
 ((⟨t.1,m.1,⟨#[]⟩⟩,z.1),z.2.1,z.2.2)
def filesP (s:ByteArray):Nat→Nat→List (S66 × Int) × Nat × Int
 |0,p=>([],p,0)
 |d+1,p=>if (fileR s p).2.2=0 then ((fileR s p).1::(filesP s d (fileR s p).2.1).1,(filesP s d (fileR s p).2.1).2) else ([],(fileR s p).2)
def toldP (s:ByteArray):List (S66 × Int) × Nat × Int:=
 let c:=rCount s 0 0 256
 if c.2.2=0 then (let r:=filesP s c.1.toNat c.2.1;if r.2.2=0 then (if checkP (r.1.map (·.1))=0 then (r.1,r.2.1,0) else ([],0,checkP (r.1.map (·.1)))) else ([],0,r.2.2)) else ([],0,c.2.2)
def gatherP (s:ByteArray):List (S66 × Int)→Nat→List S66 × Int
 | [],p=>if p < s.size then ([],4) else ([],0)
 |x::t,p=>if x.2 > (s.size:Int) - (p:Int) then ([],3) else if (gatherP s t (p+x.2.toNat)).2=0 then (⟨x.1.f0,x.1.f1,s.extract p (p+x.2.toNat)⟩::(gatherP s t (p+x.2.toNat)).1,0) else ([],(gatherP s t (p+x.2.toNat)).2)
def treeP (s:ByteArray):List S66 × Int:=if (s.size:Int) > 524288 then ([],4) else if (toldP s).2.2=0 then gatherP s (toldP s).1 (toldP s).2.1 else ([],(toldP s).2.2)
theorem fileR_le (s:ByteArray) (p:Nat) (h:p≤s.size):(fileR s p).2.1≤s.size:=rCount_le _ _ _ _ (rNum_le _ _ _ (rText_le _ _ _ _ h))
theorem rCount_most (s:ByteArray) (p:Nat) (e most:Int) (h:(rCount s p e most).2.2=0):(rCount s p e most).1≤most:=by
 unfold rCount at h ⊢
 split
 next hc=>rw [if_pos hc] at h;simp at h
 next hc=>
  rw [if_neg hc] at h
  have: ¬((rNum s p e).1 > most):=fun hq=>hc ⟨h,hq⟩
  omega
theorem fileR_size (s:ByteArray) (p:Nat) (h:(fileR s p).2.2=0):0≤(fileR s p).1.2∧(fileR s p).1.2≤65536:=⟨(rCount_ge _ _ _ _).1,rCount_most _ _ _ _ h⟩
theorem filesP_sizes (s:ByteArray): ∀(d p:Nat), ∀x ∈ (filesP s d p).1,0≤x.2∧x.2≤65536
 |0,p=>by simp [filesP]
 |d+1,p=>by
  intro x hx
  rw [filesP] at hx
  split at hx
  next h=>
   rcases List.mem_cons.1 hx with rfl|hx
   ·exact fileR_size s p h
   ·exact filesP_sizes s d _ x hx
  next h=>simp at hx
theorem filesP_len (s:ByteArray): ∀(d p:Nat),(filesP s d p).1.length≤d
 |0,p=>by simp [filesP]
 |d+1,p=>by
  rw [filesP]
  split
  ·have:=filesP_len s d (fileR s p).2.1
   rw [List.length_cons]
   omega
  ·simp
theorem filesP_le (s:ByteArray): ∀(d p:Nat),p≤s.size→(filesP s d p).2.1≤s.size
 |0,p,h=>h
 |d+1,p,h=>by
  rw [filesP]
  split
  ·exact filesP_le s d _ (fileR_le s p h)
  ·exact fileR_le s p h
theorem toldP_sizes (s:ByteArray): ∀x ∈ (toldP s).1,0≤x.2∧x.2≤65536:=by
 unfold toldP
 dsimp only
 split
 ·split
  ·split
   ·exact filesP_sizes s _ _
   ·simp
  ·simp
 ·simp
theorem toldP_len (s:ByteArray):(toldP s).1.length≤256:=by
 unfold toldP
 dsimp only
 split
 next h0=>
  split
  ·split
   ·have:=filesP_len s (rCount s 0 0 256).1.toNat (rCount s 0 0 256).2.1
    have h1:=rCount_most s 0 0 256 h0
    have h2:=(rCount_ge s 0 0 256).1
    dsimp only
    omega
   ·simp
  ·simp
 ·simp
theorem toldP_le (s:ByteArray):(toldP s).2.1≤s.size:=by
 unfold toldP
 dsimp only
 split
 ·split
  ·split
   ·exact filesP_le s _ _ (rCount_le s 0 0 256 (Nat.zero_le _))
   ·exact Nat.zero_le _
  ·exact Nat.zero_le _
 ·exact Nat.zero_le _
def endC (fs:List S66) (zs:List Int) (r:List (S66 × Int) × Nat × Int):List S66 × List Int × Int × Int:=
 if r.2.2=0 then (if checkP (fs++r.1.map (·.1))=0 then (fs++r.1.map (·.1),zs++r.1.map (·.2),(r.2.1:Int),0) else ([],[],0,checkP (fs++r.1.map (·.1)))) else ([],[],0,r.2.2)
theorem codeHead_l0 (s:ByteArray) (hs:s.size≤524288) (d:Nat): ∀(k i p:Nat) (fs:List S66) (zs:List Int),p≤s.size→d+3000≤k→fs.length=i→zs.length=i→i+d≤256→
  image_head.l0 k s fs zs ((i+d:Nat):Int) (i:Int) s (p:Int) 0=some (endC fs zs (filesP s d p)):=by
 have hsm:Small s:=by unfold Small;omega
 induction d with
 |zero=>
  intro k i p fs zs hp hk hf hz hi
  obtain ⟨k,rfl⟩: ∃m,k=m+1:=⟨k - 1,by omega⟩
  rw [image_head.l0,if_neg (by omega)]
  simp only [code_Reader_Err.f,Option.bind_some,if_true]
  rw [codeCheck k fs (by omega) (by omega),Option.bind_some]
  simp only [code_Reader_Left.f,Option.bind_some]
  unfold endC filesP
  simp only [if_true,List.map_nil,List.append_nil]
  by_cases hc:checkP fs=0
  ·rw [if_pos hc,if_pos hc,w64 (n:=(s.size:Int) - (p:Int)) (by omega) (by omega),w64 (by omega) (by omega),show (s.size:Int) - ((s.size:Int) - (p:Int))=(p:Int) by omega]
  ·rw [if_neg hc,if_neg hc]
 |succ d ih=>
  intro k i p fs zs hp hk hf hz hi
  obtain ⟨k,rfl⟩: ∃m,k=m+1:=⟨k - 1,by omega⟩
  have h1:=rText_le s p 0 200 hp
  have h2:=rNum_le s (rText s p 0 200).2.1 (rText s p 0 200).2.2 h1
  rw [image_head.l0,if_pos (by omega),codeRText k s p 0 200 hsm hp (by omega)]
  simp only [Option.bind_some]
  rw [codeRNum k s _ _ hsm h1 (by omega)]
  simp only [Option.bind_some]
  rw [codeRCount k s _ _ 65536 hsm h2 (by omega)]
  simp only [Option.bind_some,code_Reader_Err.f]
  rw [filesP]
  by_cases he:(fileR s p).2.2=0
  ·rw [if_pos he,if_pos (show (rCount s (rNum s (rText s p 0 200).2.1 (rText s p 0 200).2.2).2.1 (rNum s (rText s p 0 200).2.1 (rText s p 0 200).2.2).2.2 65536).2.2=0 from he),if_pos (by omega),if_pos (by omega),w64 (by omega) (by omega),show (rCount s (rNum s (rText s p 0 200).2.1 (rText s p 0 200).2.2).2.1 (rNum s (rText s p 0 200).2.1 (rText s p 0 200).2.2).2.2 65536).2.2=0 from he,show (i:Int)+1=((i+1:Nat):Int) by omega,show i+(d+1)=(i+1)+d by omega]
   rw [show (rCount s (rNum s (rText s p 0 200).2.1 (rText s p 0 200).2.2).2.1 (rNum s (rText s p 0 200).2.1 (rText s p 0 200).2.2).2.2 65536).2.1=(fileR s p).2.1 from rfl]
   rw [ih k (i+1) (fileR s p).2.1 _ _ (fileR_le s p hp) (by omega) (by rw [List.length_append,List.length_singleton];omega) (by rw [List.length_append,List.length_singleton];omega) (by omega)]
   unfold endC
   simp only [List.map_cons,List.append_assoc,List.singleton_append]
   rfl
  ·rw [if_neg he,if_neg (show ¬(rCount s (rNum s (rText s p 0 200).2.1 (rText s p 0 200).2.2).2.1 (rNum s (rText s p 0 200).2.1 (rText s p 0 200).2.2).2.2 65536).2.2=0 from he)]
   unfold endC
   rw [if_neg he]
   rfl
theorem codeHead (k:Nat) (s:ByteArray) (hs:s.size≤524288) (hk:4000≤k):image_head.f k s=some ((toldP s).1.map (·.1),(toldP s).1.map (·.2),((toldP s).2.1:Int),(toldP s).2.2):=by
 have hsm:Small s:=by unfold Small;omega
 unfold image_head.f
 simp only [code_Read.f,Option.bind_some]
 have hc:=codeRCount k s 0 0 256 hsm (Nat.zero_le _) (by omega)
 rw [show ((0:Nat):Int)=0 from rfl] at hc
 rw [hc]
 simp only [Option.bind_some]
 have h2:=(rCount_ge s 0 0 256).1
 unfold toldP
 dsimp only
 by_cases h0:(rCount s 0 0 256).2.2=0
 ·have h1:=rCount_most s 0 0 256 h0
  have:=codeHead_l0 s hs (rCount s 0 0 256).1.toNat k 0 (rCount s 0 0 256).2.1 [] [] (rCount_le s 0 0 256 (Nat.zero_le _)) (by omega) rfl rfl (by omega)
  rw [Nat.zero_add,show (((rCount s 0 0 256).1.toNat:Nat):Int)=(rCount s 0 0 256).1 by omega,show ((0:Nat):Int)=0 from rfl] at this
  rw [h0,this,if_pos rfl]
  unfold endC
  simp only [List.nil_append]
  split
  ·split<;>rfl
  ·rfl
 ·obtain ⟨k,rfl⟩: ∃m,k=m+1:=⟨k - 1,by omega⟩
  rw [if_neg h0,rCount_zero s 0 0 256 h0,image_head.l0,if_neg (by omega)]
  simp only [code_Reader_Err.f,Option.bind_some]
  rw [if_neg h0]
  rfl
theorem gatherP_err (s:ByteArray): ∀(h:List (S66 × Int)) (p:Nat),(gatherP s h p).2≠0→(gatherP s h p).1= []
 | [],p,he=>by
  unfold gatherP at he ⊢
  split<;>rfl
 |x::t,p,he=>by
  unfold gatherP at he ⊢
  split
  ·rfl
  ·split
   next h1 h2=>rw [if_neg h1,if_pos h2] at he;exact absurd rfl he
   ·rfl
theorem rd_map (h:List (S66 × Int)) (i:Nat) (hi:i < h.length):rd (h.map (·.2)) (i:Int)=h[i].2:=by
 have:(h.map (·.2))[i]? =some h[i].2:=by rw [List.getElem?_map,List.getElem?_eq_getElem hi];rfl
 unfold rd
 rw [Int.toNat_natCast,List.getD_eq_getElem?_getD,this,Option.getD_some]
theorem codeTree_l0 (s:ByteArray) (hs:s.size≤524288) (h:List (S66 × Int)) (hl:h.length≤256) (hz: ∀x ∈ h,0≤x.2∧x.2≤65536) (n:Nat): ∀(k i p:Nat) (acc:List S66),i+n=h.length→n+1≤k→acc.length=i→p≤s.size→
  image_Tree.l0 k s (acc++(h.drop i).map (·.1)) (p:Int) (h.map (·.2)) (h.length:Int) (i:Int)=some (if (gatherP s (h.drop i) p).2=0 then (acc++(gatherP s (h.drop i) p).1,0) else ([],(gatherP s (h.drop i) p).2)):=by
 induction n with
 |zero=>
  intro k i p acc hi hk ha hp
  obtain ⟨k,rfl⟩: ∃m,k=m+1:=⟨k - 1,by omega⟩
  rw [image_Tree.l0,if_neg (by omega),List.drop_eq_nil_of_le (by omega),gatherP]
  by_cases hq:p < s.size
  ·rw [if_pos (by omega),if_pos hq];rfl
  ·rw [if_neg (by omega),if_neg hq];simp
 |succ n ih=>
  intro k i p acc hi hk ha hp
  obtain ⟨k,rfl⟩: ∃m,k=m+1:=⟨k - 1,by omega⟩
  have hil:i < h.length:=by omega
  have hx:=hz h[i] (List.getElem_mem _)
  rw [image_Tree.l0,if_pos (by omega),if_pos (by omega),if_pos (by rw [List.length_map];omega),rd_map h i hil,w64 (n:=(s.size:Int) - (p:Int)) (by omega) (by omega),w64 (n:=(p:Int)+h[i].2) (by omega) (by omega),w64 (n:=(i:Int)+1) (by omega) (by omega),List.drop_eq_getElem_cons hil,gatherP]
  by_cases hq:h[i].2 > (s.size:Int) - (p:Int)
  ·rw [if_pos hq,if_pos hq];rfl
  ·have hlen:(acc++List.map (·.1) (h[i]::h.drop (i+1))).length=h.length:=by simp;omega
   rw [if_neg hq,if_neg hq,if_pos (by omega),if_pos (by omega),if_pos (by omega),if_pos (by rw [hlen];omega),Int.toNat_natCast,show ((p:Int)+h[i].2).toNat=p+h[i].2.toNat by omega,Int.toNat_natCast,show (p:Int)+h[i].2=((p+h[i].2.toNat:Nat):Int) by omega,show (i:Int)+1=((i+1:Nat):Int) by omega]
   have e1:rd_T66 (acc++List.map (·.1) (h[i]::h.drop (i+1))) (i:Int)=h[i].1:=by
    rw [rd66_at _ i (by rw [hlen];exact hil)]
    simp [List.getElem_append_right,ha]
   have e2: ∀y:S66,(acc++List.map (·.1) (h[i]::h.drop (i+1))).set i y=(acc++[y])++(h.drop (i+1)).map (·.1):=by
    intro y
    rw [List.set_append,if_neg (by omega),ha,Nat.sub_self,List.map_cons,List.set_cons_zero,List.append_assoc]
    rfl
   rw [e1,e2,ih k (i+1) (p+h[i].2.toNat) _ (by omega) (by omega) (by rw [List.length_append,List.length_singleton];omega) (by omega)]
   by_cases hg:(gatherP s (h.drop (i+1)) (p+h[i].2.toNat)).2=0
   ·rw [if_pos hg,if_pos hg];simp
   ·rw [if_neg hg,if_neg hg,if_neg hg]
theorem codeTree (k:Nat) (s:ByteArray) (hk:4000≤k):image_Tree.f k s=some (treeP s):=by
 unfold image_Tree.f treeP
 by_cases h:(s.size:Int) > 524288
 ·rw [if_pos h,if_pos h]
 ·rw [if_neg h,if_neg h,codeHead k s (by omega) hk,Option.bind_some]
  dsimp only
  by_cases he:(toldP s).2.2=0
  ·rw [if_pos he,if_pos he,List.length_map]
   have:=codeTree_l0 s (by omega) (toldP s).1 (toldP_len s) (toldP_sizes s) (toldP s).1.length k 0 (toldP s).2.1 [] (by omega) (by have:=toldP_len s;omega) rfl (toldP_le s)
   rw [List.drop_zero,List.nil_append,List.nil_append] at this
   refine this.trans ?_
   split
   next hq=>rw [← hq]
   next hq=>rw [← gatherP_err s _ _ hq]
  ·rw [if_neg he,if_neg he]
def mk105 (x:S66 × Int):S105:=⟨x.1,x.2⟩
theorem rd105_at (l:List (S66 × Int)) (i:Nat) (hi:i < l.length):rd_T105 (l.map mk105) (i:Int)=mk105 l[i]:=by
 rw [rd_T105,Int.toNat_natCast,List.getD_eq_getElem?_getD,List.getElem?_map,List.getElem?_eq_getElem hi]
 rfl
theorem refTold_l1 (h:List (S66 × Int)) (hl:h.length≤256) (s:ByteArray) (p:Int) (n:Nat): ∀(k i:Nat),i+n=h.length→n+2600≤k→
  barqueref10_Told.l1 k ((h.take i).map (·.1)) (i:Int) s p 0 (h.map mk105) 0=some (if checkP (h.map (·.1))=0 then (h.map mk105,p,0) else ([],0,checkP (h.map (·.1)))):=by
 induction n with
 |zero=>
  intro k i hi hk
  obtain ⟨k,rfl⟩: ∃m,k=m+1:=⟨k - 1,by omega⟩
  rw [barqueref10_Told.l1,List.length_map,if_neg (by omega),List.take_of_length_le (by omega),refCheck k _ (by rw [List.length_map];omega) (by rw [List.length_map];omega),Option.bind_some]
  split<;>rfl
 |succ n ih=>
  intro k i hi hk
  obtain ⟨k,rfl⟩: ∃m,k=m+1:=⟨k - 1,by omega⟩
  have hil:i < h.length:=by omega
  rw [barqueref10_Told.l1,List.length_map,if_pos (by omega),if_pos (by omega),if_pos (by rw [List.length_map,List.length_take];omega),rd105_at h i hil,w64 (by omega) (by omega),show (i:Int)+1=((i+1:Nat):Int) by omega]
  have e:(h.take i).map (·.1)++[(⟨(mk105 h[i]).f0.f0,(mk105 h[i]).f0.f1,(mk105 h[i]).f0.f2⟩:S66)]=(h.take (i+1)).map (·.1):=by
   rw [List.take_succ_eq_append_getElem hil,List.map_append]
   rfl
  rw [e]
  exact ih k (i+1) (by omega) (by omega)
def endR (fs:List (S66 × Int)) (r:List (S66 × Int) × Nat × Int):List S105 × Int × Int:=
 if r.2.2=0 then (if checkP ((fs++r.1).map (·.1))=0 then ((fs++r.1).map mk105,(r.2.1:Int),0) else ([],0,checkP ((fs++r.1).map (·.1)))) else ([],0,r.2.2)
theorem refTold_l0 (s:ByteArray) (hs:s.size≤524288) (d:Nat): ∀(k i p:Nat) (fs:List (S66 × Int)),p≤s.size→2*d+4000≤k→fs.length=i→i+d≤256→
  barqueref10_Told.l0 k ((i+d:Nat):Int) (i:Int) s (p:Int) 0 (fs.map mk105) 0=some (endR fs (filesP s d p)):=by
 have hsm:Small s:=by unfold Small;omega
 induction d with
 |zero=>
  intro k i p fs hp hk hf hi
  obtain ⟨k,rfl⟩: ∃m,k=m+2:=⟨k - 2,by omega⟩
  rw [barqueref10_Told.l0,if_neg (by omega),barqueref10_Told.j1,if_neg (by decide),if_pos rfl]
  have:=refTold_l1 fs (by omega) s (p:Int) fs.length k 0 (by omega) (by omega)
  rw [List.take_zero] at this
  refine Eq.trans this ?_
  unfold endR filesP
  simp only [if_true,List.append_nil]
 |succ d ih=>
  intro k i p fs hp hk hf hi
  obtain ⟨k,rfl⟩: ∃m,k=m+2:=⟨k - 2,by omega⟩
  have h1:=rText_le s p 0 200 hp
  have h2:=rNum_le s (rText s p 0 200).2.1 (rText s p 0 200).2.2 h1
  rw [barqueref10_Told.l0,if_pos (by omega),barqueref10_Told.j1,if_pos (by rfl),refRText k s p 0 200 hsm hp (by omega)]
  simp only [Option.bind_some]
  rw [refRNum k s _ _ hsm h1 (by omega)]
  simp only [Option.bind_some]
  rw [refRCount k s _ _ 65536 hsm h2 (by omega)]
  simp only [Option.bind_some]
  rw [if_pos (by rw [List.length_map];omega),w64 (by omega) (by omega),show (i:Int)+1=((i+1:Nat):Int) by omega]
  have e:fs.map mk105++[(⟨(⟨(rText s p 0 200).1,(rNum s (rText s p 0 200).2.1 (rText s p 0 200).2.2).1,⟨#[]⟩⟩:S66),(rCount s (rNum s (rText s p 0 200).2.1 (rText s p 0 200).2.2).2.1 (rNum s (rText s p 0 200).2.1 (rText s p 0 200).2.2).2.2 65536).1⟩:S105)]=(fs++[(fileR s p).1]).map mk105:=by
   rw [List.map_append]
   rfl
  rw [e,show (rCount s (rNum s (rText s p 0 200).2.1 (rText s p 0 200).2.2).2.1 (rNum s (rText s p 0 200).2.1 (rText s p 0 200).2.2).2.2 65536).2.1=(fileR s p).2.1 from rfl,show (rCount s (rNum s (rText s p 0 200).2.1 (rText s p 0 200).2.2).2.1 (rNum s (rText s p 0 200).2.1 (rText s p 0 200).2.2).2.2 65536).2.2=(fileR s p).2.2 from rfl,filesP]
  by_cases he:(fileR s p).2.2=0
  ·rw [if_pos he,he,show i+(d+1)=(i+1)+d by omega,ih k (i+1) (fileR s p).2.1 _ (fileR_le s p hp) (by omega) (by rw [List.length_append,List.length_singleton];omega) (by omega)]
   unfold endR
   simp only [List.append_assoc,List.singleton_append]
  ·obtain ⟨k,rfl⟩: ∃m,k=m+2:=⟨k - 2,by omega⟩
   have hj:barqueref10_Told.l0 (k+2) ((i+(d+1):Nat):Int) ((i+1:Nat):Int) s ((fileR s p).2.1:Int) (fileR s p).2.2 ((fs++[(fileR s p).1]).map mk105) 0=barqueref10_Told.j1 (k+1) ((i+(d+1):Nat):Int) ((i+1:Nat):Int) false s ((fileR s p).2.1:Int) (fileR s p).2.2 ((fs++[(fileR s p).1]).map mk105) 0:=by
    rw [barqueref10_Told.l0,beq_eq_false_iff_ne.mpr he]
    split<;>rfl
   rw [if_neg he,hj,barqueref10_Told.j1,if_neg (by decide),if_neg he]
   unfold endR
   rw [if_neg he]
theorem refTold (k:Nat) (s:ByteArray) (hs:s.size≤524288) (hk:5000≤k):barqueref10_Told.f k s=some ((toldP s).1.map mk105,((toldP s).2.1:Int),(toldP s).2.2):=by
 have hsm:Small s:=by unfold Small;omega
 unfold barqueref10_Told.f
 have hc:=refRCount k s 0 0 256 hsm (Nat.zero_le _) (by omega)
 rw [show ((0:Nat):Int)=0 from rfl] at hc
 rw [hc]
 simp only [Option.bind_some]
 have h2:=(rCount_ge s 0 0 256).1
 unfold toldP
 dsimp only
 by_cases h0:(rCount s 0 0 256).2.2=0
 ·have h1:=rCount_most s 0 0 256 h0
  have:=refTold_l0 s hs (rCount s 0 0 256).1.toNat k 0 (rCount s 0 0 256).2.1 [] (rCount_le s 0 0 256 (Nat.zero_le _)) (by omega) rfl (by omega)
  rw [Nat.zero_add,show (((rCount s 0 0 256).1.toNat:Nat):Int)=(rCount s 0 0 256).1 by omega,show ((0:Nat):Int)=0 from rfl,List.map_nil] at this
  rw [h0,this,if_pos rfl]
  unfold endR
  simp only [List.nil_append]
  split
  ·split<;>rfl
  ·rfl
 ·obtain ⟨k,rfl⟩: ∃m,k=m+2:=⟨k - 2,by omega⟩
  rw [if_neg h0,rCount_zero s 0 0 256 h0,barqueref10_Told.l0,if_neg (by omega),barqueref10_Told.j1,if_neg (by decide),if_neg h0]
  rfl
theorem refTree_l0 (s:ByteArray) (hs:s.size≤524288) (h:List (S66 × Int)) (hl:h.length≤256) (hz: ∀x ∈ h,0≤x.2∧x.2≤65536) (at0:Int) (n:Nat): ∀(k i p:Nat) (acc:List S66),i+n=h.length→n+1≤k→acc.length=i→p≤s.size→
  barqueref10_Tree.l0 k s (p:Int) acc (i:Int) (h.map mk105) at0=some (if (gatherP s (h.drop i) p).2=0 then (acc++(gatherP s (h.drop i) p).1,0) else ([],(gatherP s (h.drop i) p).2)):=by
 induction n with
 |zero=>
  intro k i p acc hi hk ha hp
  obtain ⟨k,rfl⟩: ∃m,k=m+1:=⟨k - 1,by omega⟩
  rw [barqueref10_Tree.l0,List.length_map,if_neg (by omega),List.drop_eq_nil_of_le (by omega),gatherP]
  by_cases hq:p < s.size
  ·rw [if_pos (by omega),if_pos hq];rfl
  ·rw [if_neg (by omega),if_neg hq];simp
 |succ n ih=>
  intro k i p acc hi hk ha hp
  obtain ⟨k,rfl⟩: ∃m,k=m+1:=⟨k - 1,by omega⟩
  have hil:i < h.length:=by omega
  have hx:=hz h[i] (List.getElem_mem _)
  rw [barqueref10_Tree.l0,List.length_map,if_pos (by omega),if_pos (by omega),rd105_at h i hil,show (mk105 h[i]).f1=h[i].2 from rfl,show (mk105 h[i]).f0=h[i].1 from rfl,w64 (n:=(s.size:Int) - (p:Int)) (by omega) (by omega),w64 (n:=(p:Int)+h[i].2) (by omega) (by omega),w64 (n:=(i:Int)+1) (by omega) (by omega),List.drop_eq_getElem_cons hil,gatherP]
  by_cases hq:h[i].2 > (s.size:Int) - (p:Int)
  ·rw [if_pos hq,if_pos hq];rfl
  ·rw [if_neg hq,if_neg hq,if_pos (by omega),if_pos (by omega),if_pos (by omega),if_pos (by omega),show ((p:Int)+h[i].2).toNat=p+h[i].2.toNat by omega,Int.toNat_natCast,show (p:Int)+h[i].2=((p+h[i].2.toNat:Nat):Int) by omega,show (i:Int)+1=((i+1:Nat):Int) by omega]
   rw [ih k (i+1) (p+h[i].2.toNat) _ (by omega) (by omega) (by rw [List.length_append,List.length_singleton];omega) (by omega)]
   by_cases hg:(gatherP s (h.drop (i+1)) (p+h[i].2.toNat)).2=0
   ·rw [if_pos hg,if_pos hg];simp
   ·rw [if_neg hg,if_neg hg,if_neg hg]
theorem refTree (k:Nat) (s:ByteArray) (hk:5000≤k):barqueref10_Tree.f k s=some (treeP s):=by
 unfold barqueref10_Tree.f treeP
 by_cases h:(s.size:Int) > 524288
 ·rw [if_pos h,if_pos h]
 ·rw [if_neg h,if_neg h,refTold k s (by omega) hk,Option.bind_some]
  dsimp only
  by_cases he:(toldP s).2.2=0
  ·rw [if_pos he,if_pos he]
   have:=refTree_l0 s (by omega) (toldP s).1 (toldP_len s) (toldP_sizes s) ((toldP s).2.1:Int) (toldP s).1.length k 0 (toldP s).2.1 [] (by omega) (by have:=toldP_len s;omega) rfl (toldP_le s)
   rw [List.drop_zero,List.nil_append] at this
   refine Eq.trans this ?_
   split
   next hq=>rw [← hq]
   next hq=>rw [← gatherP_err s _ _ hq]
  ·rw [if_neg he,if_neg he]
end Go.Proofs.YthejnffhfmdpnaaDoor.Spec

end

section
namespace Go.Proofs.YthejnffhfmdpnaaDoor.Q
open Go.RowKit Go.Proofs.YthejnffhfmdpnaaDoorW.PrintWords Go.Proofs.YthejnffhfmdpnaaDoorW.PrintLast Go.Proofs.YthejnffhfmdpnaaDoorW.PrintMore
set_option linter.unusedVariables false
set_option linter.unusedSimpArgs false
def cutB (x:S66):S66:=if 200 < x.f2.size then ⟨x.f0,x.f1,x.f2.extract 0 200⟩ else x
def fewB (l:List S66):List S66:=(l.take 8).map cutB
theorem Bx.types2 {e t0 t1:Nat} {c0 c1:Array Value} (h0:e≠t0) (h1:e≠t1): ∀(i:Nat) (c:Array Value) (t:Nat),([(c0,t0),(c1,t1)]:List (Array Value × Nat))[i]? =some (c,t)→e≠t:=by
 intro i c t hi
 match i with
 |0=>obtain ⟨_,rfl⟩:=Prod.mk.inj (Option.some.inj hi);exact h0
 |1=>obtain ⟨_,rfl⟩:=Prod.mk.inj (Option.some.inj hi);exact h1
 |i+2=>simp at hi
theorem Bx.app {α:Type} {d:Kd α} {e base:Nat} {ok:Nat→Prop} {v:Value} {xs:List α} {w W W1:World} {L:List (Array Value × Nat)} (h:Bx w L W) (hR:d.R e W base ok v xs) (ht: ∀(i:Nat) (c:Array Value) (t:Nat),L[i]? =some (c,t)→e≠t) (hg:W.grownBy W1 v.ownBlock) (hB:Below w.heap.size w W1):Bx w L W1:=h.grown hg hB (h.ne hR ht)
theorem cells2 {W:World} {g t:Nat} {x0 x1:Value} (h:W.heap[g]? =some (.cells #[x0,x1] t (0,0))):(W.cell? ⟨g,0,none⟩=some x0∧W.cell? ⟨g,1,none⟩=some x1)∧W.frozen? ⟨g,0,none⟩=false∧W.frozen? ⟨g,1,none⟩=false:=
 ⟨⟨(blk_cell h 0).trans rfl,(blk_cell h 1).trans rfl⟩,blk_frozen h 0,blk_frozen h 1⟩
theorem cells3 {W:World} {g t:Nat} {x0 x1 x2:Value} (h:W.heap[g]? =some (.cells #[x0,x1,x2] t (0,0))):(W.cell? ⟨g,0,none⟩=some x0∧W.cell? ⟨g,1,none⟩=some x1∧W.cell? ⟨g,2,none⟩=some x2)∧W.frozen? ⟨g,0,none⟩=false∧W.frozen? ⟨g,1,none⟩=false∧W.frozen? ⟨g,2,none⟩=false:=
 ⟨⟨(blk_cell h 0).trans rfl,(blk_cell h 1).trans rfl,(blk_cell h 2).trans rfl⟩,blk_frozen h 0,blk_frozen h 1,blk_frozen h 2⟩
theorem fewB_next {l:List S66} {i:Nat} (h:i < l.length):(l.take i).map cutB++[cutB (rd_T66 l (i:Int))]=(l.take (i+1)).map cutB:=by
 rw [rd_T66,Int.toNat_natCast,List.getD_eq_getElem?_getD,List.getElem?_eq_getElem h,Option.getD_some,List.take_succ_eq_append_getElem h,List.map_append]
 rfl
set_option maxHeartbeats 8000000 in
set_option maxRecDepth 100000 in
theorem few_calls (kd gn:Int) (A:Option Addr) (c:Nat) (l:List S66) (w:World) (hr:Kd.C k66 w A l.length l):
  Calls Tryd.prog 17 #[.agg #[.int .i64 kd, .int .i64 gn, .slice A l.length c]] w fun e w'=> ∃A' c',e= .returned (.agg #[.int .i64 kd, .int .i64 gn, .slice A' (fewB l).length c'])∧Kd.R k66 66 w' w.heap.size (fun _=>True) (.slice A' (fewB l).length c') (fewB l)∧Below w.heap.size w w':=by
 have hu43:=Tryd.underlying43
 have hu66:=Tryd.underlying66
 have HR:=Aside0.mk hr
 have hlm:=hr.2.1
 have HX:=Aside0.mk (((Bx.one w #[.int .i64 kd, .int .i64 gn, .slice A l.length c] 43).more (by simp) #[.int .i64 0, .int .i64 0, .slice none 0 0] 43))
 clear hr
 go_enter Tryd.func17,Tryd.ntmps17
 go_wp2
 generalize (w.alloc (.cells #[.int .i64 kd, .int .i64 gn, .slice A l.length c] 43)).alloc (.cells #[.int .i64 0, .int .i64 0, .slice none 0 0] 43)=w0 at HX ⊢
 go_loopg [3,4] (l.length+1) (fun gq v3 v4 wr=> ∃i:Nat,v4= .int .i64 i∧Aside0 (i≤l.length∧i≤8∧gq+i=l.length+1)∧Aside0 (Bx w [(#[.int .i64 kd, .int .i64 gn, .slice A l.length c],43),(#[.int .i64 0, .int .i64 0, .slice none 0 0],43)] wr∧Kd.R k66 66 wr w.heap.size (fun _=>True) v3 ((l.take i).map cutB)))
 case atStart=>exact ⟨0,rfl,⟨by omega⟩,⟨HX.out,Kd.R_nil _ _ _ _ _⟩⟩
 case round=>
  clear HX
  obtain ⟨i,rfl,HG,HX⟩:=hrel
  have hle:=HG.out
  have b1:=HX.out.1.at_ 0 _ _ rfl
  rw [Nat.add_zero] at b1
  have b2:=HX.out.1.at_ 1 _ _ rfl
  obtain ⟨⟨z0,z1,z2⟩, -, -,y2⟩:=cells3 b1
  by_cases hlt:i < l.length∧i < 8
  ·have ltb:decide ((i:Int) < (l.length:Int))=true:=decide_eq_true (by omega)
   have ltc:decide (i < l.length)=true:=decide_eq_true hlt.1
   have lt8:decide ((i:Int) < 8)=true:=decide_eq_true (by omega)
   have lt9:decide (i < 8)=true:=decide_eq_true hlt.2
   obtain ⟨ad,ead,x0,x1,x2⟩:=at_T66 (Kd.C_below HR.out HX.out.1.bel) (i:Int) (by omega) (by omega)
   cases ead
   rw [Int.toNat_natCast] at x0 x1 x2
   have p200:=eq_true (show (0:Int)≤(i:Int) by omega)
   have q200:=eq_true (show (i:Int) < (l.length:Int) by omega)
   obtain ⟨x,hx⟩: ∃x,x=rd_T66 l (i:Int):=⟨_,rfl⟩
   have HN:=Aside0.mk (fewB_next hlt.1)
   rw [← hx] at x0 x1 x2 HN
   clear hx
   obtain ⟨xs,hxs⟩: ∃xs,xs=(l.take i).map cutB:=⟨_,rfl⟩
   rw [← hxs] at HX HN
   have HL:=Aside0.mk (show xs.length≤8 by rw [hxs,List.length_map,List.length_take];omega)
   obtain ⟨A3,c3,rfl⟩:=Kd.R_slice HX.out.2
   clear hxs
   obtain ⟨cs,hcs,hP⟩: ∃cs:List Value,cs= [.string (cutB x).f0, .int .i64 (cutB x).f1, .string (cutB x).f2]∧ ∀W,k66.M W w.heap.size (fun _=>False) (cutB x) cs:=⟨_,rfl,fun W=>k66_mkM W _ _ _⟩
   have HP:=Aside0.mk hP
   clear hP
   have h3:decide (200 < x.f2.size)=decide ((200:Int) < (x.f2.size:Int)):=decide_eq_decide.mpr (by omega)
   have hcut:cutB x=bif decide ((200:Int) < (x.f2.size:Int)) then ⟨x.f0,x.f1,x.f2.extract 0 200⟩ else x:=by
    rw [← h3];unfold cutB;by_cases h:200 < x.f2.size
    ·rw [if_pos h,decide_eq_true h];rfl
    ·rw [if_neg h,decide_eq_false h];rfl
   cases h2:decide ((200:Int) < (x.f2.size:Int))<;>simp only [h2,cond_true,cond_false] at h3 hcut<;>rw [hcut] at hcs HP HN<;>(try dsimp only at hcs HP)
   all_goals (try have h4:=eq_true (show (200:Int)≤(x.f2.size:Int) by have:=of_decide_eq_true h2;omega))
   all_goals (try have h5:=eq_true (show 200≤x.f2.size by have:=of_decide_eq_true h2;omega))
   all_goals
    subst hcs
    go_wp2_with (first|((with_reducible refine gate_builtin (b:= .append) (xs:=#[.tmp 30, .tmp 32]) rfl ?_);at_builtin;refine Kd.R_append k66 (w0:=w) w.heap.size rfl (.tmp 30) (.tmp 32) 37 66 (.agg #[.string ⟨#[]⟩, .int .i64 0, .string ⟨#[]⟩]) 40 rfl Tryd.underlying37 info66 rfl (by decide) (by omega) (.slice A3 xs.length c3) xs _ _ (fun _=>True) (fun _=>False) rfl (by first|(go_simp;done)|(go_simp;rfl)) (HP.out _) (fun _ hk=>hk.elim) (fun _ _=>trivial) ?aO ?aB ?aS ?aL ?_;(case aO=>exact Kd.R_alloc HX.out.2 _);(case aB=>exact below_alloc HX.out.1.bel _);(case aS=>exact (below_alloc HX.out.1.bel _).size);(case aL=>have:=HL.out;omega);intro v1 w1 ho hb hg hat;rw [HN.out] at ho;have HX1:=Aside0.mk (And.intro ((HX.out.1.alloc _).app (Kd.R_alloc HX.out.2 _) (Bx.types2 (by decide) (by decide)) hg hb) ho);clear ho hb hg hat))
    go_roundg (l.length - i)
    case measure=>have:=HG.out.2;omega
    case rel=>exact ⟨i+1,by go_num,⟨by have:=HG.out;omega⟩,HX1⟩
  ·have HE:=Aside0.mk (show (l.take i).map cutB=fewB l by unfold fewB;congr 1;by_cases h8:i=8<;>first|rw [h8]|rw [List.take_of_length_le (show l.length≤i by omega),List.take_of_length_le (show l.length≤8 by omega)])
   rw [HE.out] at HX
   obtain ⟨A',c',rfl⟩:=Kd.R_slice HX.out.2
   obtain ⟨⟨d0,d1,d2⟩,e0,e1,e2⟩:=cells3 b2
   have h3:decide (i < l.length)=decide ((i:Int) < (l.length:Int)):=decide_eq_decide.mpr (by omega)
   have h4:decide ((i:Int) < (l.length:Int))=true→decide ((i:Int) < 8)=false∧decide (i < 8)=false:=fun h=>by have:=of_decide_eq_true h;exact ⟨decide_eq_false (by omega),decide_eq_false (by omega)⟩
   cases h2:decide ((i:Int) < (l.length:Int))<;>rw [h2] at h3 h4<;>try obtain ⟨h5,h6⟩:=h4 rfl
   all_goals
    go_wp2_with fail
    have r2:((((wr.setCell ⟨w.heap.size,2,none⟩ (.slice A' (fewB l).length c')).setCell ⟨w.heap.size+1,0,none⟩ (.int .i64 kd)).setCell ⟨w.heap.size+1,1,none⟩ (.int .i64 gn)).setCell ⟨w.heap.size+1,2,none⟩ (.slice A' (fewB l).length c')).heap[w.heap.size+1]? =some (.cells #[.int .i64 kd, .int .i64 gn, .slice A' (fewB l).length c'] 43 (0,0)):=blk_put (blk_put (blk_put (blk_far b2 (show w.heap.size+1≠w.heap.size by omega) _) 0 _ rfl) 1 _ rfl) 2 _ rfl
    refine bodyPost_ret (v:= .agg #[.int .i64 kd, .int .i64 gn, .slice A' (fewB l).length c']) ?_ rfl ?_
    ·obtain ⟨⟨s0,s1,s2⟩, -⟩:=cells3 r2
     simp [results,Tryd.results17,go_sem,s0,s1,s2]
    ·exact ⟨A',c',rfl,R_only HX.out.2 b1 b2 (by decide) (by decide) (fun k h1 h2=>by repeat rw [Below.heap_setCell _ _ _ _ (by first|exact h1|exact h2)]),below_set (below_set (below_set (below_set HX.out.1.bel (Nat.le_refl _)) (Nat.le_succ _)) (Nat.le_succ _)) (Nat.le_succ _)⟩
end Go.Proofs.YthejnffhfmdpnaaDoor.Q

end

section
namespace Go.Proofs.YthejnffhfmdpnaaDoor.Q
open Go.RowKit Go.Proofs.YthejnffhfmdpnaaDoor.Spec Go.Proofs.YthejnffhfmdpnaaDoorW.PrintWords Go.Proofs.YthejnffhfmdpnaaDoorW.PrintLast Go.Proofs.YthejnffhfmdpnaaDoorW.PrintMore
set_option linter.unusedVariables false
set_option linter.unusedSimpArgs false
def restoreP (fl:Int) (tr:List ByteArray) (g:Int):Int × Int × Int × List S66 × List ByteArray:=
 if 0≤g∧g < fl then (18,0,0,[],[]) else if g < 0∨g≥(tr.length:Int) then (8,0,0,[],[]) else (0,g,fl,(treeP (rdOf ByteArray.empty tr g)).1,[])
def RestPost (w:World) (r:Int × Int × Int × List S66 × List ByteArray) (e:Ending) (w':World):Prop:=
 ∃v3 v4:Value,e= .returned (.agg #[.int .i64 r.1, .int .i64 r.2.1, .int .i64 r.2.2.1,v3,v4])∧Kd.R k66 66 w' w.heap.size (fun _=>True) v3 r.2.2.2.1∧Kd.R Kd.string 9 w' w.heap.size (fun _=>True) v4 r.2.2.2.2∧Below w.heap.size w w'
theorem put5 {W:World} {g t:Nat} {x0 x1 x2 x3 x4:Value} (h:W.heap[g]? =some (.cells #[x0,x1,x2,x3,x4] t (0,0))) (y0 y1 y2 y3 y4:Value):(((((W.setCell ⟨g,0,none⟩ y0).setCell ⟨g,1,none⟩ y1).setCell ⟨g,2,none⟩ y2).setCell ⟨g,3,none⟩ y3).setCell ⟨g,4,none⟩ y4).heap[g]? =some (.cells #[y0,y1,y2,y3,y4] t (0,0))∧(∀k,k≠g→(((((W.setCell ⟨g,0,none⟩ y0).setCell ⟨g,1,none⟩ y1).setCell ⟨g,2,none⟩ y2).setCell ⟨g,3,none⟩ y3).setCell ⟨g,4,none⟩ y4).heap[k]? =W.heap[k]?)∧ ∀w:World,Below w.heap.size w W→w.heap.size≤g→Below w.heap.size w (((((W.setCell ⟨g,0,none⟩ y0).setCell ⟨g,1,none⟩ y1).setCell ⟨g,2,none⟩ y2).setCell ⟨g,3,none⟩ y3).setCell ⟨g,4,none⟩ y4):=
 ⟨blk_put (blk_put (blk_put (blk_put (blk_put h 0 _ rfl) 1 _ rfl) 2 _ rfl) 3 _ rfl) 4 _ rfl,fun k hk=>by repeat rw [Below.heap_setCell _ _ _ _ hk],fun w hB hg=>below_set (below_set (below_set (below_set (below_set hB hg) hg) hg) hg) hg⟩
theorem cells5 {W:World} {g t:Nat} {x0 x1 x2 x3 x4:Value} (h:W.heap[g]? =some (.cells #[x0,x1,x2,x3,x4] t (0,0))):(W.cell? ⟨g,0,none⟩=some x0∧W.cell? ⟨g,1,none⟩=some x1∧W.cell? ⟨g,2,none⟩=some x2∧W.cell? ⟨g,3,none⟩=some x3∧W.cell? ⟨g,4,none⟩=some x4)∧ ∀j,W.frozen? ⟨g,j,none⟩=false:=
 ⟨⟨(blk_cell h 0).trans rfl,(blk_cell h 1).trans rfl,(blk_cell h 2).trans rfl,(blk_cell h 3).trans rfl,(blk_cell h 4).trans rfl⟩,blk_frozen h⟩
set_option maxHeartbeats 8000000 in
set_option maxRecDepth 100000 in
theorem rest34_calls (fl:Int) (A:Option Addr) (c:Nat) (tr:List ByteArray) (g:Int) (w:World) (hr:Kd.C Kd.string w A tr.length tr):
  Calls Tryd.prog 34 #[.agg #[.int .i64 fl, .slice A tr.length c], .int .i64 g] w (RestPost w (restoreP fl tr g)):=by
 have hu36:=Tryd.underlying36
 have HR:=Aside0.mk hr
 have hlm:=hr.2.1
 clear hr
 have HN:=Aside0.mk (fun (x0 x1 x2 x3 x4:Value)=>show ((w.alloc (.cells #[.int .i64 fl, .slice A tr.length c] 36)).alloc (.cells #[x0,x1,x2,x3,x4] 39)).heap[w.heap.size+1]? =some (.cells #[x0,x1,x2,x3,x4] 39 (0,0)) from by
  have h:=blk_new (w.alloc (.cells #[.int .i64 fl, .slice A tr.length c] 36)) (.cells #[x0,x1,x2,x3,x4] 39)
  rw [show (w.alloc (.cells #[.int .i64 fl, .slice A tr.length c] 36)).heap.size=w.heap.size+1 by simp] at h
  exact h)
 by_cases hA:0≤g∧g < fl
 ·have e1:=decide_eq_true hA.1
  have e2:=decide_eq_true hA.2
  have HO:=Aside0.mk (show restoreP fl tr g=(18,0,0,[],[]) by unfold restoreP;rw [if_pos hA])
  clear hA
  go_enter Tryd.func34,Tryd.ntmps34
  go_wp2
  rw [HO.out]
  refine bodyPost_ret (v:= .agg #[.int .i64 18, .int .i64 0, .int .i64 0, .slice none 0 0, .slice none 0 0]) ?_ rfl ?_
  ·obtain ⟨⟨s0,s1,s2,s3,s4⟩, -⟩:=cells5 (HN.out (.int .i64 18) (.int .i64 0) (.int .i64 0) (.slice none 0 0) (.slice none 0 0))
   simp [results,Tryd.results34,go_sem,s0,s1,s2,s3,s4]
  ·exact ⟨_,_,rfl,Kd.R_nil _ _ _ _ _,Kd.R_nil _ _ _ _ _,below_alloc (below_alloc (Below.refl _ _) _) _⟩
 ·by_cases hB:g < 0∨(tr.length:Int)≤g
  ·have HO:=Aside0.mk (show restoreP fl tr g=(8,0,0,[],[]) by unfold restoreP;rw [if_neg hA,if_pos (by omega)])
   have hq:decide (0≤g)=true→decide (g < fl)=false∧decide ((tr.length:Int)≤g)=true:=fun h=>by have:=of_decide_eq_true h;exact ⟨decide_eq_false (by omega),decide_eq_true (by omega)⟩
   have e3:decide (g < 0)= !decide (0≤g):=by by_cases h:g < 0<;>simp [h]<;>omega
   clear hA hB
   cases e1:decide (0≤g)<;>rw [e1] at e3 hq<;>(try obtain ⟨e2,e4⟩:=hq rfl)<;>(try clear hq)<;>go_enter Tryd.func34,Tryd.ntmps34<;>go_wp2<;>
   ·skip
    rw [HO.out]
    refine bodyPost_ret (v:= .agg #[.int .i64 8, .int .i64 0, .int .i64 0, .slice none 0 0, .slice none 0 0]) ?_ rfl ?_
    ·obtain ⟨⟨s0,s1,s2,s3,s4⟩, -⟩:=cells5 (HN.out (.int .i64 8) (.int .i64 0) (.int .i64 0) (.slice none 0 0) (.slice none 0 0))
     simp [results,Tryd.results34,go_sem,s0,s1,s2,s3,s4]
    ·exact ⟨_,_,rfl,Kd.R_nil _ _ _ _ _,Kd.R_nil _ _ _ _ _,below_alloc (below_alloc (Below.refl _ _) _) _⟩
  ·have e1:decide (0≤g)=true:=decide_eq_true (by omega)
   have e2:decide (g < fl)=false:=decide_eq_false (by omega)
   have e3:decide (g < 0)=false:=decide_eq_false (by omega)
   have e4:decide ((tr.length:Int)≤g)=false:=decide_eq_false (by omega)
   have p200:=eq_true (show (0:Int)≤g by omega)
   have q200:=eq_true (show g < (tr.length:Int) by omega)
   obtain ⟨ad,ead,x0⟩:=Kd.at_string HR.out g (by omega) (by omega)
   cases ead
   have x1:=x0
   obtain ⟨s,hs⟩: ∃s,s=rdOf ByteArray.empty tr g:=⟨_,rfl⟩
   have HO:=Aside0.mk (show restoreP fl tr g=(0,g,fl,(treeP s).1,[]) by unfold restoreP;rw [if_neg hA,if_neg (by omega),hs])
   change w.cell? _=some (Value.string (rdOf ByteArray.empty tr g)) at x0
   rw [← hs] at x0
   have hBl:=below_alloc (below_alloc (Below.refl w.heap.size w) (.cells #[.int .i64 fl, .slice (some ad) tr.length c] 36)) (.cells #[.int .i64 0, .int .i64 0, .int .i64 0, .slice none 0 0, .slice none 0 0] 39)
   have x2:=(hBl.cell (World.block_lt_of_cell? w _ x0)).trans x0
   have HB:=Aside0.mk hBl
   have HT:=Aside0.mk (fun W=>image_Tree.calls 4000 s (treeP s).1 (treeP s).2 W (codeTree 4000 s (Nat.le_refl _) |> id))
   clear hs hA hB x1
   go_enter Tryd.func34,Tryd.ntmps34
   clear hBl
   go_wp2_with (first|(go_at_call 52;(with_reducible refine (HT.out _).mono ?_);rintro e w1 ⟨v,rfl,hv,hb⟩;obtain ⟨A5,c5,rfl⟩:=Kd.R_slice hv;have b1:=blk_below (blk_alloc (blk_new w (.cells #[.int .i64 fl, .slice (some ad) tr.length c] 36)) (.cells #[.int .i64 0, .int .i64 0, .int .i64 0, .slice none 0 0, .slice none 0 0] 39)) hb;have b2:=blk_below (HN.out (.int .i64 0) (.int .i64 0) (.int .i64 0) (.slice none 0 0) (.slice none 0 0)) hb;obtain ⟨⟨z0,z1⟩, -⟩:=cells2 b1;obtain ⟨⟨y0,y1,y2,y3,y4⟩,yf⟩:=cells5 b2;have f0:=yf 0;have f1:=yf 1;have f2:=yf 2;have f3:=yf 3;have f4:=yf 4;have HV:=Aside0.mk (Kd.R_lower hv HB.out.size);replace HB:=Aside0.mk (below_step HB.out hb);have HP:=Aside0.mk b2;clear hv hb yf b1 b2 x0 x2))
   obtain ⟨hp,ho,hb⟩:=put5 HP.out (.int .i64 0) (.int .i64 g) (.int .i64 fl) (.slice A5 (treeP s).1.length c5) (.slice none 0 0)
   rw [HO.out]
   refine bodyPost_ret (v:= .agg #[.int .i64 0, .int .i64 g, .int .i64 fl, .slice A5 (treeP s).1.length c5, .slice none 0 0]) ?_ rfl ?_
   ·obtain ⟨⟨s0,s1,s2,s3,s4⟩, -⟩:=cells5 hp
    simp [results,Tryd.results34,go_sem,s0,s1,s2,s3,s4]
   ·exact ⟨_,_,rfl,Kd.R_mono (Kd.R_step (Kd.R_types HV.out HP.out (by decide)) (fun k hk _=>ho k hk.2)) (fun _ hk=>hk.1),Kd.R_nil _ _ _ _ _,hb w HB.out (Nat.le_succ _)⟩
set_option maxHeartbeats 8000000 in
set_option maxRecDepth 100000 in
theorem rest31_calls (fl:Int) (A:Option Addr) (c:Nat) (tr:List ByteArray) (g:Int) (w:World) (hr:Kd.C Kd.string w A tr.length tr):
  Calls Tryd.prog 31 #[.agg #[.int .i64 fl, .slice A tr.length c], .int .i64 g] w (RestPost w (restoreP fl tr g)):=by
 have hu33:=Tryd.underlying33
 have HR:=Aside0.mk hr
 have hlm:=hr.2.1
 clear hr
 have HN:=Aside0.mk (fun (x0 x1 x2 x3 x4:Value)=>show ((w.alloc (.cells #[.int .i64 fl, .slice A tr.length c] 33)).alloc (.cells #[x0,x1,x2,x3,x4] 39)).heap[w.heap.size+1]? =some (.cells #[x0,x1,x2,x3,x4] 39 (0,0)) from by
  have h:=blk_new (w.alloc (.cells #[.int .i64 fl, .slice A tr.length c] 33)) (.cells #[x0,x1,x2,x3,x4] 39)
  rw [show (w.alloc (.cells #[.int .i64 fl, .slice A tr.length c] 33)).heap.size=w.heap.size+1 by simp] at h
  exact h)
 by_cases hA:0≤g∧g < fl
 ·have e1:=decide_eq_true hA.1
  have e2:=decide_eq_true hA.2
  have HO:=Aside0.mk (show restoreP fl tr g=(18,0,0,[],[]) by unfold restoreP;rw [if_pos hA])
  clear hA
  go_enter Tryd.func31,Tryd.ntmps31
  go_wp2
  rw [HO.out]
  refine bodyPost_ret (v:= .agg #[.int .i64 18, .int .i64 0, .int .i64 0, .slice none 0 0, .slice none 0 0]) ?_ rfl ?_
  ·obtain ⟨⟨s0,s1,s2,s3,s4⟩, -⟩:=cells5 (HN.out (.int .i64 18) (.int .i64 0) (.int .i64 0) (.slice none 0 0) (.slice none 0 0))
   simp [results,Tryd.results31,go_sem,s0,s1,s2,s3,s4]
  ·exact ⟨_,_,rfl,Kd.R_nil _ _ _ _ _,Kd.R_nil _ _ _ _ _,below_alloc (below_alloc (Below.refl _ _) _) _⟩
 ·by_cases hB:g < 0∨(tr.length:Int)≤g
  ·have HO:=Aside0.mk (show restoreP fl tr g=(8,0,0,[],[]) by unfold restoreP;rw [if_neg hA,if_pos (by omega)])
   have hq:decide (0≤g)=true→decide (g < fl)=false∧decide ((tr.length:Int)≤g)=true:=fun h=>by have:=of_decide_eq_true h;exact ⟨decide_eq_false (by omega),decide_eq_true (by omega)⟩
   have e3:decide (g < 0)= !decide (0≤g):=by by_cases h:g < 0<;>simp [h]<;>omega
   clear hA hB
   cases e1:decide (0≤g)<;>rw [e1] at e3 hq<;>(try obtain ⟨e2,e4⟩:=hq rfl)<;>(try clear hq)<;>go_enter Tryd.func31,Tryd.ntmps31<;>go_wp2<;>
   ·skip
    rw [HO.out]
    refine bodyPost_ret (v:= .agg #[.int .i64 8, .int .i64 0, .int .i64 0, .slice none 0 0, .slice none 0 0]) ?_ rfl ?_
    ·obtain ⟨⟨s0,s1,s2,s3,s4⟩, -⟩:=cells5 (HN.out (.int .i64 8) (.int .i64 0) (.int .i64 0) (.slice none 0 0) (.slice none 0 0))
     simp [results,Tryd.results31,go_sem,s0,s1,s2,s3,s4]
    ·exact ⟨_,_,rfl,Kd.R_nil _ _ _ _ _,Kd.R_nil _ _ _ _ _,below_alloc (below_alloc (Below.refl _ _) _) _⟩
  ·have e1:decide (0≤g)=true:=decide_eq_true (by omega)
   have e2:decide (g < fl)=false:=decide_eq_false (by omega)
   have e3:decide (g < 0)=false:=decide_eq_false (by omega)
   have e4:decide ((tr.length:Int)≤g)=false:=decide_eq_false (by omega)
   have p200:=eq_true (show (0:Int)≤g by omega)
   have q200:=eq_true (show g < (tr.length:Int) by omega)
   obtain ⟨ad,ead,x0⟩:=Kd.at_string HR.out g (by omega) (by omega)
   cases ead
   have x1:=x0
   obtain ⟨s,hs⟩: ∃s,s=rdOf ByteArray.empty tr g:=⟨_,rfl⟩
   have HO:=Aside0.mk (show restoreP fl tr g=(0,g,fl,(treeP s).1,[]) by unfold restoreP;rw [if_neg hA,if_neg (by omega),hs])
   change w.cell? _=some (Value.string (rdOf ByteArray.empty tr g)) at x0
   rw [← hs] at x0
   have hBl:=below_alloc (below_alloc (Below.refl w.heap.size w) (.cells #[.int .i64 fl, .slice (some ad) tr.length c] 33)) (.cells #[.int .i64 0, .int .i64 0, .int .i64 0, .slice none 0 0, .slice none 0 0] 39)
   have x2:=(hBl.cell (World.block_lt_of_cell? w _ x0)).trans x0
   have HB:=Aside0.mk hBl
   have HT:=Aside0.mk (fun W=>barqueref10_Tree.calls 5000 s (treeP s).1 (treeP s).2 W (refTree 5000 s (Nat.le_refl _) |> id))
   clear hs hA hB x1
   go_enter Tryd.func31,Tryd.ntmps31
   clear hBl
   go_wp2_with (first|(go_at_call 45;(with_reducible refine (HT.out _).mono ?_);rintro e w1 ⟨v,rfl,hv,hb⟩;obtain ⟨A5,c5,rfl⟩:=Kd.R_slice hv;have b1:=blk_below (blk_alloc (blk_new w (.cells #[.int .i64 fl, .slice (some ad) tr.length c] 33)) (.cells #[.int .i64 0, .int .i64 0, .int .i64 0, .slice none 0 0, .slice none 0 0] 39)) hb;have b2:=blk_below (HN.out (.int .i64 0) (.int .i64 0) (.int .i64 0) (.slice none 0 0) (.slice none 0 0)) hb;obtain ⟨⟨z0,z1⟩, -⟩:=cells2 b1;obtain ⟨⟨y0,y1,y2,y3,y4⟩,yf⟩:=cells5 b2;have f0:=yf 0;have f1:=yf 1;have f2:=yf 2;have f3:=yf 3;have f4:=yf 4;have HV:=Aside0.mk (Kd.R_lower hv HB.out.size);replace HB:=Aside0.mk (below_step HB.out hb);have HP:=Aside0.mk b2;clear hv hb yf b1 b2 x0 x2))
   obtain ⟨hp,ho,hb⟩:=put5 HP.out (.int .i64 0) (.int .i64 g) (.int .i64 fl) (.slice A5 (treeP s).1.length c5) (.slice none 0 0)
   rw [HO.out]
   refine bodyPost_ret (v:= .agg #[.int .i64 0, .int .i64 g, .int .i64 fl, .slice A5 (treeP s).1.length c5, .slice none 0 0]) ?_ rfl ?_
   ·obtain ⟨⟨s0,s1,s2,s3,s4⟩, -⟩:=cells5 hp
    simp [results,Tryd.results31,go_sem,s0,s1,s2,s3,s4]
   ·exact ⟨_,_,rfl,Kd.R_mono (Kd.R_step (Kd.R_types HV.out HP.out (by decide)) (fun k hk _=>ho k hk.2)) (fun _ hk=>hk.1),Kd.R_nil _ _ _ _ _,hb w HB.out (Nat.le_succ _)⟩
end Go.Proofs.YthejnffhfmdpnaaDoor.Q

end

section
namespace Go.Proofs.YthejnffhfmdpnaaDoor.Q
open Go.RowKit Go.Proofs.YthejnffhfmdpnaaDoorW.PrintWords Go.Proofs.YthejnffhfmdpnaaDoorW.PrintLast Go.Proofs.YthejnffhfmdpnaaDoorW.PrintMore
set_option linter.unusedVariables false
def speech_restore.f (k:Nat) (a0_0:Int) (l0_1:List ByteArray) (a1:Int):Option (Int × Int × Int × (List (S66)) × List ByteArray):=some (restoreP a0_0 l0_1 a1)
theorem speech_restore.calls (k:Nat) (a0_0:Int) (A0_1:Option Addr) (c0_1:Nat) (l0_1:List ByteArray) (a1:Int) (r1:Int) (r2:Int) (r3:Int) (r4:List (S66)) (r5:List ByteArray) (w:World) (hr0_1:Kd.C Kd.string w A0_1 l0_1.length l0_1) (hc0_1:l0_1.length≤c0_1) (h:speech_restore.f k a0_0 l0_1 a1=some (r1,r2,r3,r4,r5)):
  Calls Tryd.prog 34 #[.agg #[.int .i64 a0_0, .slice A0_1 l0_1.length c0_1], .int .i64 a1] w fun e w'=> ∃v3_ v4_:Value,e= .returned (.agg #[.int .i64 r1, .int .i64 r2, .int .i64 r3,v3_,v4_])∧Kd.R k66 66 w' w.heap.size (fun _=>True) v3_ r4∧Kd.R Kd.string 9 w' w.heap.size (fun _=>True) v4_ r5∧Below w.heap.size w w':=by
 have:=rest34_calls a0_0 A0_1 c0_1 l0_1 a1 w hr0_1
 rw [Option.some.inj h] at this
 exact this
end Go.Proofs.YthejnffhfmdpnaaDoor.Q

end

section
namespace Go.Proofs.YthejnffhfmdpnaaDoor.Q
open Go.RowKit Go.Proofs.YthejnffhfmdpnaaDoorW.PrintWords Go.Proofs.YthejnffhfmdpnaaDoorW.PrintLast Go.Proofs.YthejnffhfmdpnaaDoorW.PrintMore
attribute [local go_sem] min2_int min_two
set_option linter.unusedVariables false
set_option linter.unusedSimpArgs false
def slices_Clone_string_string.f (l0:List ByteArray):Option (List ByteArray):=if l0.length≤8796093022208 then some l0 else none
theorem slices_Clone_string_string.calls (A0:Option Addr) (c0:Nat) (l0:List ByteArray) (r:List ByteArray) (w:World) (hr0:Kd.C Kd.string w A0 l0.length l0) (hc0:l0.length≤c0) (h:slices_Clone_string_string.f l0=some r):
  Calls Tryd.prog 33 #[.slice A0 l0.length c0] w fun e w'=> ∃v0_:Value,e= .returned (v0_)∧Kd.R Kd.string 9 w' w.heap.size (fun _=>True) v0_ r∧Below w.heap.size w w':=by
 unfold slices_Clone_string_string.f at h
 by_cases c:l0.length≤8796093022208
 ·rw [if_pos c] at h
  obtain rfl:=Option.some.inj h
  clear h
  cases A0 with
  |none=>
   have hl:l0= []:=by
    by_cases hn:0 < l0.length
    ·obtain ⟨ad,e,_⟩:=hr0.2.2 hn
     exact absurd e (by simp)
    ·exact List.length_eq_zero_iff.mp (by omega)
   subst hl
   refine (Lay.slices_Clone_string_nil 0 c0 w).mono ?_
   rintro e w' ⟨he,rfl⟩
   exact ⟨_,he,Kd.R_nil _ _ _ _ _,Below.refl _ _⟩
  |some ad=>
   by_cases hn:0 < l0.length
   ·have hcell: ∀j,j < l0.length→w.cell? (ad.add j)=some (.string (l0.getD j ByteArray.empty)):=by
     obtain ⟨ad',e,hc⟩:=hr0.2.2 hn
     obtain rfl:=Option.some.inj e
     intro j hj
     obtain ⟨cs,hs,hk,hu⟩:=hc j _ (List.getElem?_eq_getElem hj)
     have hk:cs= [.string l0[j]]:=hk
     subst hk
     have:=hu 0 _ rfl
     rw [show j*Kd.string.sz+0=j from Nat.mul_one j] at this
     rw [this,List.getD_eq_getElem?_getD,List.getElem?_eq_getElem hj]
     rfl
    have hsp:ad.spot=none:=by simpa [Addr.add] using World.cell?_spot (hcell 0 hn)
    obtain ⟨b,off,sp⟩:=ad
    have hsp:sp=none:=hsp
    subst hsp
    refine (Lay.slices_Clone_string b off l0.length c0 l0 w (Nat.le_refl _) (by omega) (fun j hj=>by
     have hq:=hcell j hj
     by_cases hj0:j=0
     ·subst hj0
      exact hq
     ·rw [Addr.add,if_neg hj0] at hq
      exact hq)).mono ?_
    rintro e w' ⟨v,he,ho,_,hb⟩
    rw [List.take_length] at ho
    exact ⟨v,he,Kd.R_of_own (h1:=fun _=>rfl) ho (fun _ _=>trivial),hb⟩
   ·obtain rfl:l0= []:=List.length_eq_zero_iff.mp (by omega)
    refine (Lay.slices_Clone_string_zero ad c0 w).mono ?_
    rintro e w' ⟨v,he,ho,_,hb⟩
    exact ⟨v,he,Kd.R_of_own (h1:=fun _=>rfl) (xs:=[]) ho (fun _ _=>trivial),hb⟩
 ·rw [if_neg c] at h
  exact absurd h (by simp)
end Go.Proofs.YthejnffhfmdpnaaDoor.Q

end

section
namespace Go.Proofs.YthejnffhfmdpnaaDoor.Q
open Go.RowKit Go.Proofs.YthejnffhfmdpnaaDoorW.PrintWords Go.Proofs.YthejnffhfmdpnaaDoorW.PrintLast Go.Proofs.YthejnffhfmdpnaaDoorW.PrintMore
set_option linter.unusedVariables false
set_option linter.unusedSimpArgs false
def DoPost (w:World) (A0:Option Addr) (c0:Nat) (l0:List ByteArray) (r:Int × List ByteArray × Int × Int × Int × List S66 × List ByteArray) (e:Ending) (w':World):Prop:=
 ∃v1 v5 v6:Value,e= .returned (.tuple #[.agg #[.int .i64 r.1,v1], .agg #[.int .i64 r.2.2.1, .int .i64 r.2.2.2.1, .int .i64 r.2.2.2.2.1,v5,v6]])∧((v1= .slice A0 l0.length c0∧r.2.1=l0)∨Kd.R Kd.string 9 w' w.heap.size (fun _=>True) v1 r.2.1)∧Kd.R k66 66 w' w.heap.size (fun _=>True) v5 r.2.2.2.2.2.1∧Kd.R Kd.string 9 w' w.heap.size (fun _=>True) v6 r.2.2.2.2.2.2∧Below w.heap.size w w'
set_option maxHeartbeats 8000000 in
set_option maxRecDepth 100000 in
theorem speech_Do.dflt (k:Nat) (fl:Int) (A0:Option Addr) (c0:Nat) (l0:List ByteArray) (kind gen:Int) (A1:Option Addr) (c1:Nat) (l1:List S66) (w:World) (hr0:Kd.C Kd.string w A0 l0.length l0) (hc0:l0.length≤c0) (hr1:Kd.C k66 w A1 l1.length l1) (hc1:l1.length≤c1) (h1:(kind == 1)=false) (h2:(kind == 2)=false) (h3:(kind == 3)=false) (h4:(kind == 4)=false) (h6:(kind == 6)=false) (h5:(kind == 5)=false):
  Calls Tryd.prog 18 #[.agg #[.int .i64 fl, .slice A0 l0.length c0], .agg #[.int .i64 kind, .int .i64 gen, .slice A1 l1.length c1]] w (DoPost w A0 c0 l0 (fl,l0,1,0,0,[],[])):=by
 have hlm:=hr0.2.1
 have HR0:=Aside0.mk hr0
 have HC0:=Aside0.mk hc0
 have HR1:=Aside0.mk hr1
 have HC1:=Aside0.mk hc1
 clear hr0 hc0 hr1 hc1
 go_enter Tryd.func18,Tryd.ntmps18
 go_wp2
 refine bodyPost_ret (v:= .tuple #[.agg #[.int .i64 (fl), .slice A0 l0.length c0], .agg #[.int .i64 (1), .int .i64 (0), .int .i64 (0), .slice none 0 0, .slice none 0 0]]) (by simp [results,Tryd.results18,go_sem]) rfl ?_
 exact ⟨_,_,_,rfl, .inl ⟨rfl,rfl⟩,Kd.R_nil _ _ _ _ _,Kd.R_nil _ _ _ _ _,(by repeat (first|exact Below.refl _ _|apply below_alloc|apply below_drew|apply pw_below_drewN))⟩
set_option maxHeartbeats 8000000 in
set_option maxRecDepth 100000 in
theorem speech_Do.four (k:Nat) (fl:Int) (A0:Option Addr) (c0:Nat) (l0:List ByteArray) (kind gen:Int) (A1:Option Addr) (c1:Nat) (l1:List S66) (w:World) (hr0:Kd.C Kd.string w A0 l0.length l0) (hc0:l0.length≤c0) (hr1:Kd.C k66 w A1 l1.length l1) (hc1:l1.length≤c1) (h1:(kind == 1)=false) (h2:(kind == 2)=false) (h3:(kind == 3)=false) (h4:(kind == 4)=true):
  Calls Tryd.prog 18 #[.agg #[.int .i64 fl, .slice A0 l0.length c0], .agg #[.int .i64 kind, .int .i64 gen, .slice A1 l1.length c1]] w (DoPost w A0 c0 l0 (fl,l0,0,(l0.length:Int),fl,[],[])):=by
 have hlm:=hr0.2.1
 have HR0:=Aside0.mk hr0
 have HC0:=Aside0.mk hc0
 have HR1:=Aside0.mk hr1
 have HC1:=Aside0.mk hc1
 clear hr0 hc0 hr1 hc1
 go_enter Tryd.func18,Tryd.ntmps18
 go_wp2
 go_region
 go_wp2
 refine bodyPost_ret (v:= .tuple #[.agg #[.int .i64 (fl), .slice A0 l0.length c0], .agg #[.int .i64 (0), .int .i64 ((l0.length:Int)), .int .i64 (fl), .slice none 0 0, .slice none 0 0]]) (by simp [results,Tryd.results18,go_sem]) rfl ?_
 exact ⟨_,_,_,rfl, .inl ⟨rfl,rfl⟩,Kd.R_nil _ _ _ _ _,Kd.R_nil _ _ _ _ _,(by repeat (first|exact Below.refl _ _|apply below_alloc|apply below_drew|apply pw_below_drewN))⟩
set_option maxHeartbeats 8000000 in
set_option maxRecDepth 100000 in
theorem speech_Do.six (k:Nat) (fl:Int) (A0:Option Addr) (c0:Nat) (l0:List ByteArray) (kind gen:Int) (A1:Option Addr) (c1:Nat) (l1:List S66) (w:World) (hr0:Kd.C Kd.string w A0 l0.length l0) (hc0:l0.length≤c0) (hr1:Kd.C k66 w A1 l1.length l1) (hc1:l1.length≤c1) (h1:(kind == 1)=false) (h2:(kind == 2)=false) (h3:(kind == 3)=false) (h4:(kind == 4)=false) (h6:(kind == 6)=true):
  Calls Tryd.prog 18 #[.agg #[.int .i64 fl, .slice A0 l0.length c0], .agg #[.int .i64 kind, .int .i64 gen, .slice A1 l1.length c1]] w (DoPost w A0 c0 l0 (fl,l0,0,(l0.length:Int),fl,[],[])):=by
 have hlm:=hr0.2.1
 have HR0:=Aside0.mk hr0
 have HC0:=Aside0.mk hc0
 have HR1:=Aside0.mk hr1
 have HC1:=Aside0.mk hc1
 clear hr0 hc0 hr1 hc1
 go_enter Tryd.func18,Tryd.ntmps18
 go_wp2
 go_region
 go_wp2
 refine bodyPost_ret (v:= .tuple #[.agg #[.int .i64 (fl), .slice A0 l0.length c0], .agg #[.int .i64 (0), .int .i64 ((l0.length:Int)), .int .i64 (fl), .slice none 0 0, .slice none 0 0]]) (by simp [results,Tryd.results18,go_sem]) rfl ?_
 exact ⟨_,_,_,rfl, .inl ⟨rfl,rfl⟩,Kd.R_nil _ _ _ _ _,Kd.R_nil _ _ _ _ _,(by repeat (first|exact Below.refl _ _|apply below_alloc|apply below_drew|apply pw_below_drewN))⟩
set_option maxHeartbeats 8000000 in
set_option maxRecDepth 100000 in
theorem speech_Do.three_neg (k:Nat) (fl:Int) (A0:Option Addr) (c0:Nat) (l0:List ByteArray) (kind gen:Int) (A1:Option Addr) (c1:Nat) (l1:List S66) (w:World) (hr0:Kd.C Kd.string w A0 l0.length l0) (hc0:l0.length≤c0) (hr1:Kd.C k66 w A1 l1.length l1) (hc1:l1.length≤c1) (h1:(kind == 1)=false) (h2:(kind == 2)=false) (h3:(kind == 3)=true) (hg:decide (gen < 0)=true):
  Calls Tryd.prog 18 #[.agg #[.int .i64 fl, .slice A0 l0.length c0], .agg #[.int .i64 kind, .int .i64 gen, .slice A1 l1.length c1]] w (DoPost w A0 c0 l0 (fl,l0,2,0,0,[],[])):=by
 have hlm:=hr0.2.1
 have HR0:=Aside0.mk hr0
 have HC0:=Aside0.mk hc0
 have HR1:=Aside0.mk hr1
 have HC1:=Aside0.mk hc1
 clear hr0 hc0 hr1 hc1
 go_enter Tryd.func18,Tryd.ntmps18
 go_wp2
 refine bodyPost_ret (v:= .tuple #[.agg #[.int .i64 (fl), .slice A0 l0.length c0], .agg #[.int .i64 (2), .int .i64 (0), .int .i64 (0), .slice none 0 0, .slice none 0 0]]) (by simp [results,Tryd.results18,go_sem]) rfl ?_
 exact ⟨_,_,_,rfl, .inl ⟨rfl,rfl⟩,Kd.R_nil _ _ _ _ _,Kd.R_nil _ _ _ _ _,(by repeat (first|exact Below.refl _ _|apply below_alloc|apply below_drew|apply pw_below_drewN))⟩
set_option maxHeartbeats 8000000 in
set_option maxRecDepth 100000 in
theorem speech_Do.five_neg (k:Nat) (fl:Int) (A0:Option Addr) (c0:Nat) (l0:List ByteArray) (kind gen:Int) (A1:Option Addr) (c1:Nat) (l1:List S66) (w:World) (hr0:Kd.C Kd.string w A0 l0.length l0) (hc0:l0.length≤c0) (hr1:Kd.C k66 w A1 l1.length l1) (hc1:l1.length≤c1) (h1:(kind == 1)=false) (h2:(kind == 2)=false) (h3:(kind == 3)=false) (h4:(kind == 4)=false) (h6:(kind == 6)=false) (h5:(kind == 5)=true) (hg:decide (gen < 0)=true):
  Calls Tryd.prog 18 #[.agg #[.int .i64 fl, .slice A0 l0.length c0], .agg #[.int .i64 kind, .int .i64 gen, .slice A1 l1.length c1]] w (DoPost w A0 c0 l0 (fl,l0,2,0,0,[],[])):=by
 have hlm:=hr0.2.1
 have HR0:=Aside0.mk hr0
 have HC0:=Aside0.mk hc0
 have HR1:=Aside0.mk hr1
 have HC1:=Aside0.mk hc1
 clear hr0 hc0 hr1 hc1
 go_enter Tryd.func18,Tryd.ntmps18
 go_wp2
 refine bodyPost_ret (v:= .tuple #[.agg #[.int .i64 (fl), .slice A0 l0.length c0], .agg #[.int .i64 (2), .int .i64 (0), .int .i64 (0), .slice none 0 0, .slice none 0 0]]) (by simp [results,Tryd.results18,go_sem]) rfl ?_
 exact ⟨_,_,_,rfl, .inl ⟨rfl,rfl⟩,Kd.R_nil _ _ _ _ _,Kd.R_nil _ _ _ _ _,(by repeat (first|exact Below.refl _ _|apply below_alloc|apply below_drew|apply pw_below_drewN))⟩
set_option maxHeartbeats 8000000 in
set_option maxRecDepth 100000 in
theorem speech_Do.five_low (k:Nat) (fl:Int) (A0:Option Addr) (c0:Nat) (l0:List ByteArray) (kind gen:Int) (A1:Option Addr) (c1:Nat) (l1:List S66) (w:World) (hr0:Kd.C Kd.string w A0 l0.length l0) (hc0:l0.length≤c0) (hr1:Kd.C k66 w A1 l1.length l1) (hc1:l1.length≤c1) (h1:(kind == 1)=false) (h2:(kind == 2)=false) (h3:(kind == 3)=false) (h4:(kind == 4)=false) (h6:(kind == 6)=false) (h5:(kind == 5)=true) (hg:decide (gen < 0)=false) (hf:decide (gen≤fl)=true):
  Calls Tryd.prog 18 #[.agg #[.int .i64 fl, .slice A0 l0.length c0], .agg #[.int .i64 kind, .int .i64 gen, .slice A1 l1.length c1]] w (DoPost w A0 c0 l0 (fl,l0,0,(l0.length:Int),fl,[],[])):=by
 have hlm:=hr0.2.1
 have HR0:=Aside0.mk hr0
 have HC0:=Aside0.mk hc0
 have HR1:=Aside0.mk hr1
 have HC1:=Aside0.mk hc1
 clear hr0 hc0 hr1 hc1
 go_enter Tryd.func18,Tryd.ntmps18
 go_wp2
 go_region
 go_wp2
 refine bodyPost_ret (v:= .tuple #[.agg #[.int .i64 (fl), .slice A0 l0.length c0], .agg #[.int .i64 (0), .int .i64 ((l0.length:Int)), .int .i64 (fl), .slice none 0 0, .slice none 0 0]]) (by simp [results,Tryd.results18,go_sem]) rfl ?_
 exact ⟨_,_,_,rfl, .inl ⟨rfl,rfl⟩,Kd.R_nil _ _ _ _ _,Kd.R_nil _ _ _ _ _,(by repeat (first|exact Below.refl _ _|apply below_alloc|apply below_drew|apply pw_below_drewN))⟩
set_option maxHeartbeats 8000000 in
set_option maxRecDepth 100000 in
theorem speech_Do.five_high (k:Nat) (fl:Int) (A0:Option Addr) (c0:Nat) (l0:List ByteArray) (kind gen:Int) (A1:Option Addr) (c1:Nat) (l1:List S66) (w:World) (hr0:Kd.C Kd.string w A0 l0.length l0) (hc0:l0.length≤c0) (hr1:Kd.C k66 w A1 l1.length l1) (hc1:l1.length≤c1) (h1:(kind == 1)=false) (h2:(kind == 2)=false) (h3:(kind == 3)=false) (h4:(kind == 4)=false) (h6:(kind == 6)=false) (h5:(kind == 5)=true) (hg:decide (gen < 0)=false) (hf:decide (gen≤fl)=false) (hn:decide ((l0.length:Int)≤gen)=true):
  Calls Tryd.prog 18 #[.agg #[.int .i64 fl, .slice A0 l0.length c0], .agg #[.int .i64 kind, .int .i64 gen, .slice A1 l1.length c1]] w (DoPost w A0 c0 l0 (fl,l0,2,0,0,[],[])):=by
 have hlm:=hr0.2.1
 have HR0:=Aside0.mk hr0
 have HC0:=Aside0.mk hc0
 have HR1:=Aside0.mk hr1
 have HC1:=Aside0.mk hc1
 clear hr0 hc0 hr1 hc1
 go_enter Tryd.func18,Tryd.ntmps18
 go_wp2
 refine bodyPost_ret (v:= .tuple #[.agg #[.int .i64 (fl), .slice A0 l0.length c0], .agg #[.int .i64 (2), .int .i64 (0), .int .i64 (0), .slice none 0 0, .slice none 0 0]]) (by simp [results,Tryd.results18,go_sem]) rfl ?_
 exact ⟨_,_,_,rfl, .inl ⟨rfl,rfl⟩,Kd.R_nil _ _ _ _ _,Kd.R_nil _ _ _ _ _,(by repeat (first|exact Below.refl _ _|apply below_alloc|apply below_drew|apply pw_below_drewN))⟩
set_option maxHeartbeats 8000000 in
set_option maxRecDepth 100000 in
theorem speech_Do.five_ok (k:Nat) (fl:Int) (A0:Option Addr) (c0:Nat) (l0:List ByteArray) (kind gen:Int) (A1:Option Addr) (c1:Nat) (l1:List S66) (w:World) (hr0:Kd.C Kd.string w A0 l0.length l0) (hc0:l0.length≤c0) (hr1:Kd.C k66 w A1 l1.length l1) (hc1:l1.length≤c1) (h1:(kind == 1)=false) (h2:(kind == 2)=false) (h3:(kind == 3)=false) (h4:(kind == 4)=false) (h6:(kind == 6)=false) (h5:(kind == 5)=true) (hg:decide (gen < 0)=false) (hf:decide (gen≤fl)=false) (hn:decide ((l0.length:Int)≤gen)=false):
  Calls Tryd.prog 18 #[.agg #[.int .i64 fl, .slice A0 l0.length c0], .agg #[.int .i64 kind, .int .i64 gen, .slice A1 l1.length c1]] w (DoPost w A0 c0 l0 (gen,l0,0,(l0.length:Int),gen,[],[])):=by
 have hlm:=hr0.2.1
 have HR0:=Aside0.mk hr0
 have HC0:=Aside0.mk hc0
 have HR1:=Aside0.mk hr1
 have HC1:=Aside0.mk hc1
 clear hr0 hc0 hr1 hc1
 go_enter Tryd.func18,Tryd.ntmps18
 go_wp2
 go_region
 go_wp2
 refine bodyPost_ret (v:= .tuple #[.agg #[.int .i64 (gen), .slice A0 l0.length c0], .agg #[.int .i64 (0), .int .i64 ((l0.length:Int)), .int .i64 (gen), .slice none 0 0, .slice none 0 0]]) (by simp [results,Tryd.results18,go_sem]) rfl ?_
 exact ⟨_,_,_,rfl, .inl ⟨rfl,rfl⟩,Kd.R_nil _ _ _ _ _,Kd.R_nil _ _ _ _ _,(by repeat (first|exact Below.refl _ _|apply below_alloc|apply below_drew|apply pw_below_drewN))⟩
set_option maxHeartbeats 8000000 in
set_option maxRecDepth 100000 in
theorem speech_Do.two (k:Nat) (fl:Int) (A0:Option Addr) (c0:Nat) (l0:List ByteArray) (kind gen:Int) (A1:Option Addr) (c1:Nat) (l1:List S66) (w:World) (hr0:Kd.C Kd.string w A0 l0.length l0) (hc0:l0.length≤c0) (hr1:Kd.C k66 w A1 l1.length l1) (hc1:l1.length≤c1) (h1:(kind == 1)=false) (h2:(kind == 2)=true) (r1 r2 r3:Int) (r4:List S66) (r5:List ByteArray) (h:speech_restore.f k fl l0 (wrap64 ((l0.length:Int) - 1))=some (r1,r2,r3,r4,r5)):
  Calls Tryd.prog 18 #[.agg #[.int .i64 fl, .slice A0 l0.length c0], .agg #[.int .i64 kind, .int .i64 gen, .slice A1 l1.length c1]] w (DoPost w A0 c0 l0 (fl,l0,r1,r2,r3,r4,r5)):=by
 have hlm:=hr0.2.1
 have HR0:=Aside0.mk hr0
 have HC0:=Aside0.mk hc0
 have HR1:=Aside0.mk hr1
 have HC1:=Aside0.mk hc1
 clear hr0 hc0 hr1 hc1
 have HH:=Aside0.mk h
 clear h
 go_enter Tryd.func18,Tryd.ntmps18
 go_wp2
 have HD:=Aside0.mk (Bx.four w #[.int .i64 fl, .slice A0 l0.length c0] #[.int .i64 kind, .int .i64 gen, .slice A1 l1.length c1] #[.int .i64 0, .slice none 0 0] #[.int .i64 0, .int .i64 0, .int .i64 0, .slice none 0 0, .slice none 0 0] 36 43 36 39)
 generalize (((w.alloc (.cells #[.int .i64 fl, .slice A0 l0.length c0] 36)).alloc (.cells #[.int .i64 kind, .int .i64 gen, .slice A1 l1.length c1] 43)).alloc (.cells #[.int .i64 0, .slice none 0 0] 36)).alloc (.cells #[.int .i64 0, .int .i64 0, .int .i64 0, .slice none 0 0, .slice none 0 0] 39)=W at HD ⊢
 refine start_ (n:=7) (S:=fun w'=>w'.cell? ⟨w.heap.size,0,none⟩=some (.int .i64 fl)∧w'.cell? ⟨w.heap.size,1,none⟩=some (.slice A0 l0.length c0)) (ds:=[5,6]) (TF [0,7]) (by kernel_rfl) rfl rfl ⟨(blk_cell (HD.out.at_ 0 _ _ rfl) 0).trans rfl,(blk_cell (HD.out.at_ 0 _ _ rfl) 1).trans rfl⟩ (fun hHeld=>?_)
 have n0_:=Aside0.mk (HD.out.drew)
 clear HD
 have HD:=n0_
 clear n0_
 generalize W.drew=W1 at HD hHeld ⊢
 apply pu 2 (some 51) [0,2,1,4] rfl rfl (by kernel_rfl) (fun _ _ _ h=>h) (by rfl)
 ·intro w';go_simp;with_reducible rfl
 ·simp only [Act.put,List.setIfInBounds_toArray,List.set_cons_zero,List.set_cons_succ,i64_w];rfl
 apply pu 3 (some 52) [0,2,2,3] rfl rfl (by kernel_rfl) (fun _ _ _ h=>h) (by rfl)
 ·intro w';go_simp;with_reducible rfl
 ·simp only [Act.put,List.setIfInBounds_toArray,List.set_cons_zero,List.set_cons_succ,i64_w];rfl
 apply tk 0 (some 49) [1,1,2,3] rfl rfl (by kernel_rfl) (fun _ _ _ h=>h) hHeld (by rfl)
 ·rintro w' ⟨s0,s1⟩;go_simp;with_reducible rfl
 ·simp only [Act.put,List.setIfInBounds_toArray,List.set_cons_zero,List.set_cons_succ,i64_w];rfl
 apply tk 1 (some 50) [4,3] rfl rfl (by kernel_rfl) (fun _ _ _ h=>h) hHeld (by rfl)
 ·rintro w' ⟨s0,s1⟩;go_simp;with_reducible rfl
 ·simp only [Act.put,List.setIfInBounds_toArray,List.set_cons_zero,List.set_cons_succ,i64_w];rfl
 refine one_ (i:=4) (N:=some 53) (TF [5,2]) rfl rfl (by kernel_rfl) (by decide) (fun K hK=>?_)
 refine goes_ Tryd.func34 (by kernel_rfl) rfl #[.agg #[.int .i64 fl, .slice A0 l0.length c0], .int .i64 (wrap64 ((l0.length:Int) - 1))] (by rfl) rfl rfl (by simp only [List.map_toArray,List.map_cons,List.map_nil];rfl) ?_
 with_reducible refine (speech_restore.calls k fl A0 c0 l0 (wrap64 ((l0.length:Int) - 1)) r1 r2 r3 r4 r5 W1 (Kd.C_below HR0.out HD.out.bel) HC0.out HH.out).mono ?_
 rintro e W2 ⟨v4,v5,rfl,g4,g5,hb⟩
 obtain ⟨A4,c4,rfl⟩:=Kd.R_slice g4
 obtain ⟨A5,c5,rfl⟩:=Kd.R_slice g5
 refine ⟨_,rfl,?_⟩
 have G4:=Aside0.mk (Kd.R_lower g4 HD.out.bel.size)
 have G5:=Aside0.mk (Kd.R_lower g5 HD.out.bel.size)
 have n0_:=Aside0.mk (HD.out.below hb)
 clear HD
 have HD:=n0_
 clear n0_
 clear hb g4 g5
 have z20:W2.cell? ⟨w.heap.size+1+1,0,none⟩=some (.int .i64 0):=(blk_cell (HD.out.at_ 2 _ _ rfl) 0).trans rfl
 have y20:W2.frozen? ⟨w.heap.size+1+1,0,none⟩=false:=blk_frozen (HD.out.at_ 2 _ _ rfl) 0
 have z21:W2.cell? ⟨w.heap.size+1+1,1,none⟩=some (.slice none 0 0):=(blk_cell (HD.out.at_ 2 _ _ rfl) 1).trans rfl
 have y21:W2.frozen? ⟨w.heap.size+1+1,1,none⟩=false:=blk_frozen (HD.out.at_ 2 _ _ rfl) 1
 have z30:W2.cell? ⟨w.heap.size+1+1+1,0,none⟩=some (.int .i64 0):=(blk_cell (HD.out.at_ 3 _ _ rfl) 0).trans rfl
 have y30:W2.frozen? ⟨w.heap.size+1+1+1,0,none⟩=false:=blk_frozen (HD.out.at_ 3 _ _ rfl) 0
 have z31:W2.cell? ⟨w.heap.size+1+1+1,1,none⟩=some (.int .i64 0):=(blk_cell (HD.out.at_ 3 _ _ rfl) 1).trans rfl
 have y31:W2.frozen? ⟨w.heap.size+1+1+1,1,none⟩=false:=blk_frozen (HD.out.at_ 3 _ _ rfl) 1
 have z32:W2.cell? ⟨w.heap.size+1+1+1,2,none⟩=some (.int .i64 0):=(blk_cell (HD.out.at_ 3 _ _ rfl) 2).trans rfl
 have y32:W2.frozen? ⟨w.heap.size+1+1+1,2,none⟩=false:=blk_frozen (HD.out.at_ 3 _ _ rfl) 2
 have z33:W2.cell? ⟨w.heap.size+1+1+1,3,none⟩=some (.slice none 0 0):=(blk_cell (HD.out.at_ 3 _ _ rfl) 3).trans rfl
 have y33:W2.frozen? ⟨w.heap.size+1+1+1,3,none⟩=false:=blk_frozen (HD.out.at_ 3 _ _ rfl) 3
 have z34:W2.cell? ⟨w.heap.size+1+1+1,4,none⟩=some (.slice none 0 0):=(blk_cell (HD.out.at_ 3 _ _ rfl) 4).trans rfl
 have y34:W2.frozen? ⟨w.heap.size+1+1+1,4,none⟩=false:=blk_frozen (HD.out.at_ 3 _ _ rfl) 4
 refine hK.out _ _ ⟨(blk_cell (HD.out.at_ 0 _ _ rfl) 0).trans rfl,(blk_cell (HD.out.at_ 0 _ _ rfl) 1).trans rfl⟩ (fun hHeld=>?_)
 clear hK K
 refine norm_ (a':=?_) ?_ ?_
 rotate_left
 ·show Act.put _ (some 53) _=_
  simp only [Act.put,List.setIfInBounds_toArray,List.set_cons_zero,List.set_cons_succ,i64_w]
  rfl
 refine last_ (i:=5) (N:=none) (TF [6,1]) rfl rfl (by kernel_rfl) (by decide) (fun K hK=>?_)
 refine skip_ (w1:=?_) (by rfl) rfl ?_ ?_
 rotate_left
 ·go_simp
  rfl
 refine hK.out _ _ ?_
 clear hK K
 refine last_ (i:=6) (N:=none) (TF [7]) rfl rfl (by kernel_rfl) (by decide) (fun K hK=>?_)
 refine skip_ (w1:=?_) (by rfl) rfl ?_ ?_
 rotate_left
 ·go_simp
  rfl
 refine hK.out _ _ ?_
 clear hK K
 refine done_ (by kernel_rfl) ?_
 go_wp2
 have P:=put_res (HD.out.at_ 2 _ _ rfl) (HD.out.at_ 3 _ _ rfl) (by omega) (.int .i64 fl) (.slice A0 l0.length c0) (.int .i64 r1) (.int .i64 r2) (.int .i64 r3) (.slice A4 r4.length c4) (.slice A5 r5.length c5)
 refine bodyPost_ret (results_cc rfl _ _ (w.heap.size+1+1) (w.heap.size+1+1+1) 36 39 #[.int .i64 fl, .slice A0 l0.length c0] #[.int .i64 r1, .int .i64 r2, .int .i64 r3, .slice A4 r4.length c4, .slice A5 r5.length c5] (0,0) (0,0) _ _ rfl P.1 Tryd.underlying36 rfl (by kernel_rfl) rfl P.2.1 Tryd.underlying39 rfl (by kernel_rfl)) rfl ?_
 refine ⟨_,_,_,rfl, .inl ⟨rfl,rfl⟩,R_only G4.out (HD.out.at_ 2 _ _ rfl) (HD.out.at_ 3 _ _ rfl) (by decide) (by decide) P.2.2,R_only G5.out (HD.out.at_ 2 _ _ rfl) (HD.out.at_ 3 _ _ rfl) (by decide) (by decide) P.2.2,?_⟩
 iterate 7 refine below_set ?_ (by omega)
 exact HD.out.bel
set_option maxHeartbeats 8000000 in
set_option maxRecDepth 100000 in
theorem speech_Do.three (k:Nat) (fl:Int) (A0:Option Addr) (c0:Nat) (l0:List ByteArray) (kind gen:Int) (A1:Option Addr) (c1:Nat) (l1:List S66) (w:World) (hr0:Kd.C Kd.string w A0 l0.length l0) (hc0:l0.length≤c0) (hr1:Kd.C k66 w A1 l1.length l1) (hc1:l1.length≤c1) (h1:(kind == 1)=false) (h2:(kind == 2)=false) (h3:(kind == 3)=true) (hg:decide (gen < 0)=false) (r1 r2 r3:Int) (r4:List S66) (r5:List ByteArray) (h:speech_restore.f k fl l0 (gen)=some (r1,r2,r3,r4,r5)):
  Calls Tryd.prog 18 #[.agg #[.int .i64 fl, .slice A0 l0.length c0], .agg #[.int .i64 kind, .int .i64 gen, .slice A1 l1.length c1]] w (DoPost w A0 c0 l0 (fl,l0,r1,r2,r3,r4,r5)):=by
 have hlm:=hr0.2.1
 have HR0:=Aside0.mk hr0
 have HC0:=Aside0.mk hc0
 have HR1:=Aside0.mk hr1
 have HC1:=Aside0.mk hc1
 clear hr0 hc0 hr1 hc1
 have HH:=Aside0.mk h
 clear h
 go_enter Tryd.func18,Tryd.ntmps18
 go_wp2
 have HD:=Aside0.mk (Bx.four w #[.int .i64 fl, .slice A0 l0.length c0] #[.int .i64 kind, .int .i64 gen, .slice A1 l1.length c1] #[.int .i64 0, .slice none 0 0] #[.int .i64 0, .int .i64 0, .int .i64 0, .slice none 0 0, .slice none 0 0] 36 43 36 39)
 generalize (((w.alloc (.cells #[.int .i64 fl, .slice A0 l0.length c0] 36)).alloc (.cells #[.int .i64 kind, .int .i64 gen, .slice A1 l1.length c1] 43)).alloc (.cells #[.int .i64 0, .slice none 0 0] 36)).alloc (.cells #[.int .i64 0, .int .i64 0, .int .i64 0, .slice none 0 0, .slice none 0 0] 39)=W at HD ⊢
 refine start_ (n:=7) (S:=fun w'=>w'.cell? ⟨w.heap.size,0,none⟩=some (.int .i64 fl)∧w'.cell? ⟨w.heap.size,1,none⟩=some (.slice A0 l0.length c0)∧w'.cell? ⟨w.heap.size+1,1,none⟩=some (.int .i64 gen)) (ds:=[5,6]) (TF [0,7]) (by kernel_rfl) rfl rfl ⟨(blk_cell (HD.out.at_ 0 _ _ rfl) 0).trans rfl,(blk_cell (HD.out.at_ 0 _ _ rfl) 1).trans rfl,(blk_cell (HD.out.at_ 1 _ _ rfl) 1).trans rfl⟩ (fun hHeld=>?_)
 have n0_:=Aside0.mk (HD.out.drew)
 clear HD
 have HD:=n0_
 clear n0_
 generalize W.drew=W1 at HD hHeld ⊢
 apply pu 2 (some 63) [0,2,1,4] rfl rfl (by kernel_rfl) (fun _ _ _ h=>h) (by rfl)
 ·intro w';go_simp;with_reducible rfl
 ·simp only [Act.put,List.setIfInBounds_toArray,List.set_cons_zero,List.set_cons_succ,i64_w];rfl
 apply tk 0 (some 61) [1,1,1,4] rfl rfl (by kernel_rfl) (fun _ _ _ h=>h) hHeld (by rfl)
 ·rintro w' ⟨s0,s1,s2⟩;go_simp;with_reducible rfl
 ·simp only [Act.put,List.setIfInBounds_toArray,List.set_cons_zero,List.set_cons_succ,i64_w];rfl
 apply tk 1 (some 62) [3,4] rfl rfl (by kernel_rfl) (fun _ _ _ h=>h) hHeld (by rfl)
 ·rintro w' ⟨s0,s1,s2⟩;go_simp;with_reducible rfl
 ·simp only [Act.put,List.setIfInBounds_toArray,List.set_cons_zero,List.set_cons_succ,i64_w];rfl
 apply tk 3 (some 64) [4,3] rfl rfl (by kernel_rfl) (fun _ _ _ h=>h) hHeld (by rfl)
 ·rintro w' ⟨s0,s1,s2⟩;go_simp;with_reducible rfl
 ·simp only [Act.put,List.setIfInBounds_toArray,List.set_cons_zero,List.set_cons_succ,i64_w];rfl
 refine one_ (i:=4) (N:=some 65) (TF [5,2]) rfl rfl (by kernel_rfl) (by decide) (fun K hK=>?_)
 refine goes_ Tryd.func34 (by kernel_rfl) rfl #[.agg #[.int .i64 fl, .slice A0 l0.length c0], .int .i64 (gen)] (by rfl) rfl rfl (by simp only [List.map_toArray,List.map_cons,List.map_nil];rfl) ?_
 with_reducible refine (speech_restore.calls k fl A0 c0 l0 (gen) r1 r2 r3 r4 r5 W1 (Kd.C_below HR0.out HD.out.bel) HC0.out HH.out).mono ?_
 rintro e W2 ⟨v4,v5,rfl,g4,g5,hb⟩
 obtain ⟨A4,c4,rfl⟩:=Kd.R_slice g4
 obtain ⟨A5,c5,rfl⟩:=Kd.R_slice g5
 refine ⟨_,rfl,?_⟩
 have G4:=Aside0.mk (Kd.R_lower g4 HD.out.bel.size)
 have G5:=Aside0.mk (Kd.R_lower g5 HD.out.bel.size)
 have n0_:=Aside0.mk (HD.out.below hb)
 clear HD
 have HD:=n0_
 clear n0_
 clear hb g4 g5
 have z20:W2.cell? ⟨w.heap.size+1+1,0,none⟩=some (.int .i64 0):=(blk_cell (HD.out.at_ 2 _ _ rfl) 0).trans rfl
 have y20:W2.frozen? ⟨w.heap.size+1+1,0,none⟩=false:=blk_frozen (HD.out.at_ 2 _ _ rfl) 0
 have z21:W2.cell? ⟨w.heap.size+1+1,1,none⟩=some (.slice none 0 0):=(blk_cell (HD.out.at_ 2 _ _ rfl) 1).trans rfl
 have y21:W2.frozen? ⟨w.heap.size+1+1,1,none⟩=false:=blk_frozen (HD.out.at_ 2 _ _ rfl) 1
 have z30:W2.cell? ⟨w.heap.size+1+1+1,0,none⟩=some (.int .i64 0):=(blk_cell (HD.out.at_ 3 _ _ rfl) 0).trans rfl
 have y30:W2.frozen? ⟨w.heap.size+1+1+1,0,none⟩=false:=blk_frozen (HD.out.at_ 3 _ _ rfl) 0
 have z31:W2.cell? ⟨w.heap.size+1+1+1,1,none⟩=some (.int .i64 0):=(blk_cell (HD.out.at_ 3 _ _ rfl) 1).trans rfl
 have y31:W2.frozen? ⟨w.heap.size+1+1+1,1,none⟩=false:=blk_frozen (HD.out.at_ 3 _ _ rfl) 1
 have z32:W2.cell? ⟨w.heap.size+1+1+1,2,none⟩=some (.int .i64 0):=(blk_cell (HD.out.at_ 3 _ _ rfl) 2).trans rfl
 have y32:W2.frozen? ⟨w.heap.size+1+1+1,2,none⟩=false:=blk_frozen (HD.out.at_ 3 _ _ rfl) 2
 have z33:W2.cell? ⟨w.heap.size+1+1+1,3,none⟩=some (.slice none 0 0):=(blk_cell (HD.out.at_ 3 _ _ rfl) 3).trans rfl
 have y33:W2.frozen? ⟨w.heap.size+1+1+1,3,none⟩=false:=blk_frozen (HD.out.at_ 3 _ _ rfl) 3
 have z34:W2.cell? ⟨w.heap.size+1+1+1,4,none⟩=some (.slice none 0 0):=(blk_cell (HD.out.at_ 3 _ _ rfl) 4).trans rfl
 have y34:W2.frozen? ⟨w.heap.size+1+1+1,4,none⟩=false:=blk_frozen (HD.out.at_ 3 _ _ rfl) 4
 refine hK.out _ _ ⟨(blk_cell (HD.out.at_ 0 _ _ rfl) 0).trans rfl,(blk_cell (HD.out.at_ 0 _ _ rfl) 1).trans rfl,(blk_cell (HD.out.at_ 1 _ _ rfl) 1).trans rfl⟩ (fun hHeld=>?_)
 clear hK K
 refine norm_ (a':=?_) ?_ ?_
 rotate_left
 ·show Act.put _ (some 65) _=_
  simp only [Act.put,List.setIfInBounds_toArray,List.set_cons_zero,List.set_cons_succ,i64_w]
  rfl
 refine last_ (i:=5) (N:=none) (TF [6,1]) rfl rfl (by kernel_rfl) (by decide) (fun K hK=>?_)
 refine skip_ (w1:=?_) (by rfl) rfl ?_ ?_
 rotate_left
 ·go_simp
  rfl
 refine hK.out _ _ ?_
 clear hK K
 refine last_ (i:=6) (N:=none) (TF [7]) rfl rfl (by kernel_rfl) (by decide) (fun K hK=>?_)
 refine skip_ (w1:=?_) (by rfl) rfl ?_ ?_
 rotate_left
 ·go_simp
  rfl
 refine hK.out _ _ ?_
 clear hK K
 refine done_ (by kernel_rfl) ?_
 go_wp2
 have P:=put_res (HD.out.at_ 2 _ _ rfl) (HD.out.at_ 3 _ _ rfl) (by omega) (.int .i64 fl) (.slice A0 l0.length c0) (.int .i64 r1) (.int .i64 r2) (.int .i64 r3) (.slice A4 r4.length c4) (.slice A5 r5.length c5)
 refine bodyPost_ret (results_cc rfl _ _ (w.heap.size+1+1) (w.heap.size+1+1+1) 36 39 #[.int .i64 fl, .slice A0 l0.length c0] #[.int .i64 r1, .int .i64 r2, .int .i64 r3, .slice A4 r4.length c4, .slice A5 r5.length c5] (0,0) (0,0) _ _ rfl P.1 Tryd.underlying36 rfl (by kernel_rfl) rfl P.2.1 Tryd.underlying39 rfl (by kernel_rfl)) rfl ?_
 refine ⟨_,_,_,rfl, .inl ⟨rfl,rfl⟩,R_only G4.out (HD.out.at_ 2 _ _ rfl) (HD.out.at_ 3 _ _ rfl) (by decide) (by decide) P.2.2,R_only G5.out (HD.out.at_ 2 _ _ rfl) (HD.out.at_ 3 _ _ rfl) (by decide) (by decide) P.2.2,?_⟩
 iterate 7 refine below_set ?_ (by omega)
 exact HD.out.bel
set_option maxHeartbeats 8000000 in
set_option maxRecDepth 100000 in
theorem speech_Do.one_err (k:Nat) (fl:Int) (A0:Option Addr) (c0:Nat) (l0:List ByteArray) (kind gen:Int) (A1:Option Addr) (c1:Nat) (l1:List S66) (w:World) (hr0:Kd.C Kd.string w A0 l0.length l0) (hc0:l0.length≤c0) (hr1:Kd.C k66 w A1 l1.length l1) (hc1:l1.length≤c1) (s1:ByteArray) (e1:Int) (h:image_Of.f k l1=some (s1,e1)) (h1:(kind == 1)=true) (he:(e1 == 0)=false) (he2:(e1 != 0)=true):
  Calls Tryd.prog 18 #[.agg #[.int .i64 fl, .slice A0 l0.length c0], .agg #[.int .i64 kind, .int .i64 gen, .slice A1 l1.length c1]] w (DoPost w A0 c0 l0 (fl,l0,e1,0,0,[],[])):=by
 have hlm:=hr0.2.1
 have HR0:=Aside0.mk hr0
 have HC0:=Aside0.mk hc0
 have HR1:=Aside0.mk hr1
 have HC1:=Aside0.mk hc1
 clear hr0 hc0 hr1 hc1
 have HS:=Aside0.mk h
 clear h
 go_enter Tryd.func18,Tryd.ntmps18
 go_wp2_with (first|(go_at_call 32;(with_reducible refine (image_Of.calls k A1 c1 l1 s1 e1 _ (Kd.C_below HR1.out (Bx.four w #[.int .i64 fl, .slice A0 l0.length c0] #[.int .i64 kind, .int .i64 gen, .slice A1 l1.length c1] #[.int .i64 0, .slice none 0 0] #[.int .i64 0, .int .i64 0, .int .i64 0, .slice none 0 0, .slice none 0 0] 36 43 36 39).bel) HC1.out HS.out).mono ?_);rintro e w1 ⟨rfl,hb⟩;have HD:=Aside0.mk ((Bx.four w #[.int .i64 fl, .slice A0 l0.length c0] #[.int .i64 kind, .int .i64 gen, .slice A1 l1.length c1] #[.int .i64 0, .slice none 0 0] #[.int .i64 0, .int .i64 0, .int .i64 0, .slice none 0 0, .slice none 0 0] 36 43 36 39).below hb);clear hb;have z00:w1.cell? ⟨w.heap.size,0,none⟩=some (.int .i64 fl):=(blk_cell (HD.out.at_ 0 _ _ rfl) 0).trans rfl;have y00:w1.frozen? ⟨w.heap.size,0,none⟩=false:=blk_frozen (HD.out.at_ 0 _ _ rfl) 0;have z01:w1.cell? ⟨w.heap.size,1,none⟩=some (.slice A0 l0.length c0):=(blk_cell (HD.out.at_ 0 _ _ rfl) 1).trans rfl;have y01:w1.frozen? ⟨w.heap.size,1,none⟩=false:=blk_frozen (HD.out.at_ 0 _ _ rfl) 1;have z20:w1.cell? ⟨w.heap.size+1+1,0,none⟩=some (.int .i64 0):=(blk_cell (HD.out.at_ 2 _ _ rfl) 0).trans rfl;have y20:w1.frozen? ⟨w.heap.size+1+1,0,none⟩=false:=blk_frozen (HD.out.at_ 2 _ _ rfl) 0;have z21:w1.cell? ⟨w.heap.size+1+1,1,none⟩=some (.slice none 0 0):=(blk_cell (HD.out.at_ 2 _ _ rfl) 1).trans rfl;have y21:w1.frozen? ⟨w.heap.size+1+1,1,none⟩=false:=blk_frozen (HD.out.at_ 2 _ _ rfl) 1;have z30:w1.cell? ⟨w.heap.size+1+1+1,0,none⟩=some (.int .i64 0):=(blk_cell (HD.out.at_ 3 _ _ rfl) 0).trans rfl;have y30:w1.frozen? ⟨w.heap.size+1+1+1,0,none⟩=false:=blk_frozen (HD.out.at_ 3 _ _ rfl) 0;have z31:w1.cell? ⟨w.heap.size+1+1+1,1,none⟩=some (.int .i64 0):=(blk_cell (HD.out.at_ 3 _ _ rfl) 1).trans rfl;have y31:w1.frozen? ⟨w.heap.size+1+1+1,1,none⟩=false:=blk_frozen (HD.out.at_ 3 _ _ rfl) 1;have z32:w1.cell? ⟨w.heap.size+1+1+1,2,none⟩=some (.int .i64 0):=(blk_cell (HD.out.at_ 3 _ _ rfl) 2).trans rfl;have y32:w1.frozen? ⟨w.heap.size+1+1+1,2,none⟩=false:=blk_frozen (HD.out.at_ 3 _ _ rfl) 2;have z33:w1.cell? ⟨w.heap.size+1+1+1,3,none⟩=some (.slice none 0 0):=(blk_cell (HD.out.at_ 3 _ _ rfl) 3).trans rfl;have y33:w1.frozen? ⟨w.heap.size+1+1+1,3,none⟩=false:=blk_frozen (HD.out.at_ 3 _ _ rfl) 3;have z34:w1.cell? ⟨w.heap.size+1+1+1,4,none⟩=some (.slice none 0 0):=(blk_cell (HD.out.at_ 3 _ _ rfl) 4).trans rfl;have y34:w1.frozen? ⟨w.heap.size+1+1+1,4,none⟩=false:=blk_frozen (HD.out.at_ 3 _ _ rfl) 4))
 have P:=put_res (HD.out.at_ 2 _ _ rfl) (HD.out.at_ 3 _ _ rfl) (by omega) (.int .i64 fl) (.slice A0 l0.length c0) (.int .i64 e1) (.int .i64 0) (.int .i64 0) (.slice none 0 0) (.slice none 0 0)
 refine bodyPost_ret (results_cc rfl _ _ (w.heap.size+1+1) (w.heap.size+1+1+1) 36 39 #[.int .i64 fl, .slice A0 l0.length c0] #[.int .i64 e1, .int .i64 0, .int .i64 0, .slice none 0 0, .slice none 0 0] (0,0) (0,0) _ _ rfl P.1 Tryd.underlying36 rfl (by kernel_rfl) rfl P.2.1 Tryd.underlying39 rfl (by kernel_rfl)) rfl ?_
 refine ⟨_,_,_,rfl, .inl ⟨rfl,rfl⟩,Kd.R_nil _ _ _ _ _,Kd.R_nil _ _ _ _ _,?_⟩
 iterate 7 refine below_set ?_ (by omega)
 exact HD.out.bel
set_option maxHeartbeats 8000000 in
set_option maxRecDepth 100000 in
theorem speech_Do.one_full (k:Nat) (fl:Int) (A0:Option Addr) (c0:Nat) (l0:List ByteArray) (kind gen:Int) (A1:Option Addr) (c1:Nat) (l1:List S66) (w:World) (hr0:Kd.C Kd.string w A0 l0.length l0) (hc0:l0.length≤c0) (hr1:Kd.C k66 w A1 l1.length l1) (hc1:l1.length≤c1) (s1:ByteArray) (e1:Int) (h:image_Of.f k l1=some (s1,e1)) (h1:(kind == 1)=true) (he:(e1 == 0)=true) (he2:(e1 != 0)=false) (hq:decide (32≤wrap64 ((l0.length:Int) - fl))=true):
  Calls Tryd.prog 18 #[.agg #[.int .i64 fl, .slice A0 l0.length c0], .agg #[.int .i64 kind, .int .i64 gen, .slice A1 l1.length c1]] w (DoPost w A0 c0 l0 (fl,l0,7,0,0,[],[])):=by
 have hlm:=hr0.2.1
 have HR0:=Aside0.mk hr0
 have HC0:=Aside0.mk hc0
 have HR1:=Aside0.mk hr1
 have HC1:=Aside0.mk hc1
 clear hr0 hc0 hr1 hc1
 have HS:=Aside0.mk h
 clear h
 go_enter Tryd.func18,Tryd.ntmps18
 go_wp2_with (first|(go_at_call 32;(with_reducible refine (image_Of.calls k A1 c1 l1 s1 e1 _ (Kd.C_below HR1.out (Bx.four w #[.int .i64 fl, .slice A0 l0.length c0] #[.int .i64 kind, .int .i64 gen, .slice A1 l1.length c1] #[.int .i64 0, .slice none 0 0] #[.int .i64 0, .int .i64 0, .int .i64 0, .slice none 0 0, .slice none 0 0] 36 43 36 39).bel) HC1.out HS.out).mono ?_);rintro e w1 ⟨rfl,hb⟩;have HD:=Aside0.mk ((Bx.four w #[.int .i64 fl, .slice A0 l0.length c0] #[.int .i64 kind, .int .i64 gen, .slice A1 l1.length c1] #[.int .i64 0, .slice none 0 0] #[.int .i64 0, .int .i64 0, .int .i64 0, .slice none 0 0, .slice none 0 0] 36 43 36 39).below hb);clear hb;have z00:w1.cell? ⟨w.heap.size,0,none⟩=some (.int .i64 fl):=(blk_cell (HD.out.at_ 0 _ _ rfl) 0).trans rfl;have y00:w1.frozen? ⟨w.heap.size,0,none⟩=false:=blk_frozen (HD.out.at_ 0 _ _ rfl) 0;have z01:w1.cell? ⟨w.heap.size,1,none⟩=some (.slice A0 l0.length c0):=(blk_cell (HD.out.at_ 0 _ _ rfl) 1).trans rfl;have y01:w1.frozen? ⟨w.heap.size,1,none⟩=false:=blk_frozen (HD.out.at_ 0 _ _ rfl) 1;have z20:w1.cell? ⟨w.heap.size+1+1,0,none⟩=some (.int .i64 0):=(blk_cell (HD.out.at_ 2 _ _ rfl) 0).trans rfl;have y20:w1.frozen? ⟨w.heap.size+1+1,0,none⟩=false:=blk_frozen (HD.out.at_ 2 _ _ rfl) 0;have z21:w1.cell? ⟨w.heap.size+1+1,1,none⟩=some (.slice none 0 0):=(blk_cell (HD.out.at_ 2 _ _ rfl) 1).trans rfl;have y21:w1.frozen? ⟨w.heap.size+1+1,1,none⟩=false:=blk_frozen (HD.out.at_ 2 _ _ rfl) 1;have z30:w1.cell? ⟨w.heap.size+1+1+1,0,none⟩=some (.int .i64 0):=(blk_cell (HD.out.at_ 3 _ _ rfl) 0).trans rfl;have y30:w1.frozen? ⟨w.heap.size+1+1+1,0,none⟩=false:=blk_frozen (HD.out.at_ 3 _ _ rfl) 0;have z31:w1.cell? ⟨w.heap.size+1+1+1,1,none⟩=some (.int .i64 0):=(blk_cell (HD.out.at_ 3 _ _ rfl) 1).trans rfl;have y31:w1.frozen? ⟨w.heap.size+1+1+1,1,none⟩=false:=blk_frozen (HD.out.at_ 3 _ _ rfl) 1;have z32:w1.cell? ⟨w.heap.size+1+1+1,2,none⟩=some (.int .i64 0):=(blk_cell (HD.out.at_ 3 _ _ rfl) 2).trans rfl;have y32:w1.frozen? ⟨w.heap.size+1+1+1,2,none⟩=false:=blk_frozen (HD.out.at_ 3 _ _ rfl) 2;have z33:w1.cell? ⟨w.heap.size+1+1+1,3,none⟩=some (.slice none 0 0):=(blk_cell (HD.out.at_ 3 _ _ rfl) 3).trans rfl;have y33:w1.frozen? ⟨w.heap.size+1+1+1,3,none⟩=false:=blk_frozen (HD.out.at_ 3 _ _ rfl) 3;have z34:w1.cell? ⟨w.heap.size+1+1+1,4,none⟩=some (.slice none 0 0):=(blk_cell (HD.out.at_ 3 _ _ rfl) 4).trans rfl;have y34:w1.frozen? ⟨w.heap.size+1+1+1,4,none⟩=false:=blk_frozen (HD.out.at_ 3 _ _ rfl) 4))
 have P:=put_res (HD.out.at_ 2 _ _ rfl) (HD.out.at_ 3 _ _ rfl) (by omega) (.int .i64 fl) (.slice A0 l0.length c0) (.int .i64 7) (.int .i64 0) (.int .i64 0) (.slice none 0 0) (.slice none 0 0)
 refine bodyPost_ret (results_cc rfl _ _ (w.heap.size+1+1) (w.heap.size+1+1+1) 36 39 #[.int .i64 fl, .slice A0 l0.length c0] #[.int .i64 7, .int .i64 0, .int .i64 0, .slice none 0 0, .slice none 0 0] (0,0) (0,0) _ _ rfl P.1 Tryd.underlying36 rfl (by kernel_rfl) rfl P.2.1 Tryd.underlying39 rfl (by kernel_rfl)) rfl ?_
 refine ⟨_,_,_,rfl, .inl ⟨rfl,rfl⟩,Kd.R_nil _ _ _ _ _,Kd.R_nil _ _ _ _ _,?_⟩
 iterate 7 refine below_set ?_ (by omega)
 exact HD.out.bel
set_option maxHeartbeats 8000000 in
set_option maxRecDepth 100000 in
theorem speech_Do.one_ok (k:Nat) (fl:Int) (A0:Option Addr) (c0:Nat) (l0:List ByteArray) (kind gen:Int) (A1:Option Addr) (c1:Nat) (l1:List S66) (w:World) (hr0:Kd.C Kd.string w A0 l0.length l0) (hc0:l0.length≤c0) (hr1:Kd.C k66 w A1 l1.length l1) (hc1:l1.length≤c1) (s1:ByteArray) (e1:Int) (h:image_Of.f k l1=some (s1,e1)) (h1:(kind == 1)=true) (he:(e1 == 0)=true) (he2:(e1 != 0)=false) (hq:decide (32≤wrap64 ((l0.length:Int) - fl))=false) (hl:l0.length < 8796093022207):
  Calls Tryd.prog 18 #[.agg #[.int .i64 fl, .slice A0 l0.length c0], .agg #[.int .i64 kind, .int .i64 gen, .slice A1 l1.length c1]] w (DoPost w A0 c0 l0 (fl,l0++[s1],0,(l0.length:Int),fl,[],[])):=by
 have hlm:=hr0.2.1
 have HR0:=Aside0.mk hr0
 have HC0:=Aside0.mk hc0
 have HR1:=Aside0.mk hr1
 have HC1:=Aside0.mk hc1
 clear hr0 hc0 hr1 hc1
 have HS:=Aside0.mk h
 have LM:=Aside0.mk hl
 have HCl:=Aside0.mk (show slices_Clone_string_string.f l0=some l0 by unfold slices_Clone_string_string.f;rw [if_pos (by omega)])
 clear h hl
 go_enter Tryd.func18,Tryd.ntmps18
 go_wp2_with (first|(go_at_call 32;(with_reducible refine (image_Of.calls k A1 c1 l1 s1 e1 _ (Kd.C_below HR1.out (Bx.four w #[.int .i64 fl, .slice A0 l0.length c0] #[.int .i64 kind, .int .i64 gen, .slice A1 l1.length c1] #[.int .i64 0, .slice none 0 0] #[.int .i64 0, .int .i64 0, .int .i64 0, .slice none 0 0, .slice none 0 0] 36 43 36 39).bel) HC1.out HS.out).mono ?_);rintro e w1 ⟨rfl,hb⟩;have HD:=Aside0.mk ((Bx.four w #[.int .i64 fl, .slice A0 l0.length c0] #[.int .i64 kind, .int .i64 gen, .slice A1 l1.length c1] #[.int .i64 0, .slice none 0 0] #[.int .i64 0, .int .i64 0, .int .i64 0, .slice none 0 0, .slice none 0 0] 36 43 36 39).below hb);clear hb;have z00:w1.cell? ⟨w.heap.size,0,none⟩=some (.int .i64 fl):=(blk_cell (HD.out.at_ 0 _ _ rfl) 0).trans rfl;have y00:w1.frozen? ⟨w.heap.size,0,none⟩=false:=blk_frozen (HD.out.at_ 0 _ _ rfl) 0;have z01:w1.cell? ⟨w.heap.size,1,none⟩=some (.slice A0 l0.length c0):=(blk_cell (HD.out.at_ 0 _ _ rfl) 1).trans rfl;have y01:w1.frozen? ⟨w.heap.size,1,none⟩=false:=blk_frozen (HD.out.at_ 0 _ _ rfl) 1;have z20:w1.cell? ⟨w.heap.size+1+1,0,none⟩=some (.int .i64 0):=(blk_cell (HD.out.at_ 2 _ _ rfl) 0).trans rfl;have y20:w1.frozen? ⟨w.heap.size+1+1,0,none⟩=false:=blk_frozen (HD.out.at_ 2 _ _ rfl) 0;have z21:w1.cell? ⟨w.heap.size+1+1,1,none⟩=some (.slice none 0 0):=(blk_cell (HD.out.at_ 2 _ _ rfl) 1).trans rfl;have y21:w1.frozen? ⟨w.heap.size+1+1,1,none⟩=false:=blk_frozen (HD.out.at_ 2 _ _ rfl) 1;have z30:w1.cell? ⟨w.heap.size+1+1+1,0,none⟩=some (.int .i64 0):=(blk_cell (HD.out.at_ 3 _ _ rfl) 0).trans rfl;have y30:w1.frozen? ⟨w.heap.size+1+1+1,0,none⟩=false:=blk_frozen (HD.out.at_ 3 _ _ rfl) 0;have z31:w1.cell? ⟨w.heap.size+1+1+1,1,none⟩=some (.int .i64 0):=(blk_cell (HD.out.at_ 3 _ _ rfl) 1).trans rfl;have y31:w1.frozen? ⟨w.heap.size+1+1+1,1,none⟩=false:=blk_frozen (HD.out.at_ 3 _ _ rfl) 1;have z32:w1.cell? ⟨w.heap.size+1+1+1,2,none⟩=some (.int .i64 0):=(blk_cell (HD.out.at_ 3 _ _ rfl) 2).trans rfl;have y32:w1.frozen? ⟨w.heap.size+1+1+1,2,none⟩=false:=blk_frozen (HD.out.at_ 3 _ _ rfl) 2;have z33:w1.cell? ⟨w.heap.size+1+1+1,3,none⟩=some (.slice none 0 0):=(blk_cell (HD.out.at_ 3 _ _ rfl) 3).trans rfl;have y33:w1.frozen? ⟨w.heap.size+1+1+1,3,none⟩=false:=blk_frozen (HD.out.at_ 3 _ _ rfl) 3;have z34:w1.cell? ⟨w.heap.size+1+1+1,4,none⟩=some (.slice none 0 0):=(blk_cell (HD.out.at_ 3 _ _ rfl) 4).trans rfl;have y34:w1.frozen? ⟨w.heap.size+1+1+1,4,none⟩=false:=blk_frozen (HD.out.at_ 3 _ _ rfl) 4))
 refine start_ (n:=15) (S:=fun w'=>w'.cell? ⟨w.heap.size,0,none⟩=some (.int .i64 fl)∧w'.cell? ⟨w.heap.size,1,none⟩=some (.slice A0 l0.length c0)) (ds:=[14]) (TF [0,15]) (by kernel_rfl) rfl rfl ⟨(blk_cell (HD.out.at_ 0 _ _ rfl) 0).trans rfl,(blk_cell (HD.out.at_ 0 _ _ rfl) 1).trans rfl⟩ (fun hHeld=>?_)
 have n0_:=Aside0.mk (HD.out.drew)
 clear HD
 have HD:=n0_
 clear n0_
 clear z00 y00 z01 y01 z20 y20 z21 y21 z30 y30 z31 y31 z32 y32 z33 y33 z34 y34
 generalize w1.drew=W1 at HD hHeld ⊢
 apply pu 0 (some 34) [1,14] rfl rfl (by kernel_rfl) (fun _ _ _ h=>h) (by rfl)
 ·intro w';go_simp;with_reducible rfl
 ·simp only [Act.put,List.setIfInBounds_toArray,List.set_cons_zero,List.set_cons_succ,i64_w];rfl
 apply pu 2 (some 36) [1,1,1,12] rfl rfl (by kernel_rfl) (fun _ _ _ h=>h) (by rfl)
 ·intro w';go_simp;with_reducible rfl
 ·simp only [Act.put,List.setIfInBounds_toArray,List.set_cons_zero,List.set_cons_succ,i64_w];rfl
 apply pu 5 (some 39) [1,1,1,2,1,9] rfl rfl (by kernel_rfl) (fun _ _ _ h=>h) (by rfl)
 ·intro w';go_simp;with_reducible rfl
 ·simp only [Act.put,List.setIfInBounds_toArray,List.set_cons_zero,List.set_cons_succ,i64_w];rfl
 apply pu 9 (some 43) [1,1,1,2,1,3,1,5] rfl rfl (by kernel_rfl) (fun _ _ _ h=>h) (by rfl)
 ·intro w';go_simp;with_reducible rfl
 ·simp only [Act.put,List.setIfInBounds_toArray,List.set_cons_zero,List.set_cons_succ,i64_w];rfl
 apply pu 10 (some 44) [1,1,1,2,1,3,2,4] rfl rfl (by kernel_rfl) (fun _ _ _ h=>h) (by rfl)
 ·intro w';go_simp;with_reducible rfl
 ·simp only [Act.put,List.setIfInBounds_toArray,List.set_cons_zero,List.set_cons_succ,i64_w];rfl
 apply tk 1 (some 35) [3,2,1,3,2,4] rfl rfl (by kernel_rfl) (fun _ _ _ h=>h) hHeld (by rfl)
 ·rintro w' ⟨s0,s1⟩;go_simp;with_reducible rfl
 ·simp only [Act.put,List.setIfInBounds_toArray,List.set_cons_zero,List.set_cons_succ,i64_w];rfl
 apply tk 3 (some 37) [4,1,1,3,2,4] rfl rfl (by kernel_rfl) (fun _ _ _ h=>h) hHeld (by rfl)
 ·rintro w' ⟨s0,s1⟩;go_simp;with_reducible rfl
 ·simp only [Act.put,List.setIfInBounds_toArray,List.set_cons_zero,List.set_cons_succ,i64_w];rfl
 apply tk 11 (some 45) [4,1,1,3,3,3] rfl rfl (by kernel_rfl) (fun _ _ _ h=>h) hHeld (by rfl)
 ·rintro w' ⟨s0,s1⟩;go_simp;with_reducible rfl
 ·simp only [Act.put,List.setIfInBounds_toArray,List.set_cons_zero,List.set_cons_succ,i64_w];rfl
 apply pu 12 (some 46) [4,1,1,3,4,2] rfl rfl (by kernel_rfl) (fun _ _ _ h=>h) (by rfl)
 ·intro w';go_simp;with_reducible rfl
 ·simp only [Act.put,List.setIfInBounds_toArray,List.set_cons_zero,List.set_cons_succ,i64_w];rfl
 refine join_ (σ:=Value × Value) 4 (TF [7,2,4,2]) (fun s_=>[(38,s_.1),(40,s_.2)]) (fun s_ w'=>Bx w [(#[.int .i64 fl, .slice A0 l0.length c0],36),(#[.int .i64 kind, .int .i64 gen, .slice A1 l1.length c1],43),(#[.int .i64 0, .slice none 0 0],36),(#[.int .i64 0, .int .i64 0, .int .i64 0, .slice none 0 0, .slice none 0 0],39)] w'∧Kd.string.R 9 w' w.heap.size (fun _=>True) s_.1 l0∧Kd.string.R 9 w' w.heap.size (fun _=>True) s_.2 [s1]) ?_ ?_
 rotate_left
 ·intro hCont
  refine two_ (i:=4) (j:=6) (Ni:=some 38) (Nj:=some 40) (TF [6,3,4,2]) (TF [4,1,2,2,4,2]) rfl rfl rfl rfl (by kernel_rfl) (by decide) (by decide) (fun K hK=>?_) (fun K hK=>?_)
  ·skip
   refine goes_ Tryd.func33 (by kernel_rfl) rfl #[.slice A0 l0.length c0] (by rfl) rfl rfl (by simp only [List.map_toArray,List.map_cons,List.map_nil];rfl) ?_
   with_reducible refine (slices_Clone_string_string.calls A0 c0 l0 l0 _ (Kd.C_below HR0.out HD.out.bel) HC0.out HCl.out).mono ?_
   rintro e W2 ⟨v1,rfl,g1,hb⟩
   refine ⟨_,rfl,?_⟩
   have n0_:=Aside0.mk (HD.out.below hb)
   have n1_:=Aside0.mk (Kd.R_lower g1 HD.out.bel.size)
   clear HD
   (try clear G1)
   have HD:=n0_
   have G1:=n1_
   clear n0_ n1_
   clear g1 hb
   refine hK.out _ _ ⟨(blk_cell (HD.out.at_ 0 _ _ rfl) 0).trans rfl,(blk_cell (HD.out.at_ 0 _ _ rfl) 1).trans rfl⟩ (fun hHeld=>?_)
   clear hK K
   refine norm_ (a':=?_) ?_ ?_
   rotate_left
   ·show Act.put _ (some 38) _=_
    simp only [Act.put,List.setIfInBounds_toArray,List.set_cons_zero,List.set_cons_succ,i64_w]
    rfl
   refine one_ (i:=6) (N:=some 40) (TF [7,2,4,2]) rfl rfl (by kernel_rfl) (by decide) (fun K hK=>?_)
   refine Kd.R_lit_step Kd.string (w0:=w) w.heap.size 9 ?hg (N:=40) ?hd (xs:=([s1]:List ByteArray)) (inner:=[.string s1]) (ok:=fun _=>True) (okp:=fun _=>True) ?hr ?hp (fun _ hk=>hk) trivial HD.out.bel HD.out.bel.size (by simp) ?_;(case hd=>rfl);(case hg=>rfl);(case hr=>first|(go_simp;done)|(go_simp;rfl));(case hp=>exact (Reps.one (show Kd.M Kd.string _ _ _ s1 [.string s1] from rfl) (Reps.none _ _)))
   intro v2 W3 g2 hb hg_ hnew_
   have n0_:=Aside0.mk (HD.out.grown hg_ hb (fun _ _ _ _=>by simp))
   have n1_:=Aside0.mk (g2)
   have n2_:=Aside0.mk (Kd.R_grown G1.out hg_ (fun _ _=>by simp))
   clear HD
   (try clear G2)
   (try clear G1)
   have HD:=n0_
   have G2:=n1_
   have G1:=n2_
   clear n0_ n1_ n2_
   clear g2 hb hg_ hnew_
   refine hK.out _ _ ⟨(blk_cell (HD.out.at_ 0 _ _ rfl) 0).trans rfl,(blk_cell (HD.out.at_ 0 _ _ rfl) 1).trans rfl⟩ (fun hHeld=>?_)
   clear hK K
   refine norm_ (a':=?_) ?_ ?_
   rotate_left
   ·show Act.put _ (some 40) _=_
    simp only [Act.put,List.setIfInBounds_toArray,List.set_cons_zero,List.set_cons_succ,i64_w]
    rfl
   exact norm_ (by simp only [putAll,Act.put,List.setIfInBounds_toArray,List.set_cons_zero,List.set_cons_succ]) (hCont (v1,v2) _ ⟨HD.out,G1.out,G2.out⟩)
  ·skip
   refine Kd.R_lit_step Kd.string (w0:=w) w.heap.size 9 ?hg (N:=40) ?hd (xs:=([s1]:List ByteArray)) (inner:=[.string s1]) (ok:=fun _=>True) (okp:=fun _=>True) ?hr ?hp (fun _ hk=>hk) trivial HD.out.bel HD.out.bel.size (by simp) ?_;(case hd=>rfl);(case hg=>rfl);(case hr=>first|(go_simp;done)|(go_simp;rfl));(case hp=>exact (Reps.one (show Kd.M Kd.string _ _ _ s1 [.string s1] from rfl) (Reps.none _ _)))
   intro v2 W2 g2 hb hg_ hnew_
   have n0_:=Aside0.mk (HD.out.grown hg_ hb (fun _ _ _ _=>by simp))
   have n1_:=Aside0.mk (g2)
   clear HD
   (try clear G2)
   have HD:=n0_
   have G2:=n1_
   clear n0_ n1_
   clear g2 hb hg_ hnew_
   refine hK.out _ _ ⟨(blk_cell (HD.out.at_ 0 _ _ rfl) 0).trans rfl,(blk_cell (HD.out.at_ 0 _ _ rfl) 1).trans rfl⟩ (fun hHeld=>?_)
   clear hK K
   refine norm_ (a':=?_) ?_ ?_
   rotate_left
   ·show Act.put _ (some 40) _=_
    simp only [Act.put,List.setIfInBounds_toArray,List.set_cons_zero,List.set_cons_succ,i64_w]
    rfl
   refine one_ (i:=4) (N:=some 38) (TF [7,2,4,2]) rfl rfl (by kernel_rfl) (by decide) (fun K hK=>?_)
   refine goes_ Tryd.func33 (by kernel_rfl) rfl #[.slice A0 l0.length c0] (by rfl) rfl rfl (by simp only [List.map_toArray,List.map_cons,List.map_nil];rfl) ?_
   with_reducible refine (slices_Clone_string_string.calls A0 c0 l0 l0 _ (Kd.C_below HR0.out HD.out.bel) HC0.out HCl.out).mono ?_
   rintro e W3 ⟨v1,rfl,g1,hb⟩
   refine ⟨_,rfl,?_⟩
   have n0_:=Aside0.mk (HD.out.below hb)
   have n1_:=Aside0.mk (Kd.R_lower g1 HD.out.bel.size)
   have n2_:=Aside0.mk (Kd.R_below G2.out hb)
   clear HD
   (try clear G1)
   (try clear G2)
   have HD:=n0_
   have G1:=n1_
   have G2:=n2_
   clear n0_ n1_ n2_
   clear g1 hb
   refine hK.out _ _ ⟨(blk_cell (HD.out.at_ 0 _ _ rfl) 0).trans rfl,(blk_cell (HD.out.at_ 0 _ _ rfl) 1).trans rfl⟩ (fun hHeld=>?_)
   clear hK K
   refine norm_ (a':=?_) ?_ ?_
   rotate_left
   ·show Act.put _ (some 38) _=_
    simp only [Act.put,List.setIfInBounds_toArray,List.set_cons_zero,List.set_cons_succ,i64_w]
    rfl
   exact norm_ (by simp only [putAll,Act.put,List.setIfInBounds_toArray,List.set_cons_zero,List.set_cons_succ]) (hCont (v1,v2) _ ⟨HD.out,G1.out,G2.out⟩)
 rintro ⟨v1,v2⟩ W5 ⟨d5,g1,g2⟩
 have n0_:=Aside0.mk (d5)
 have n1_:=Aside0.mk (g1)
 have n2_:=Aside0.mk (g2)
 clear HD
 (try clear G1)
 (try clear G2)
 have HD:=n0_
 have G1:=n1_
 have G2:=n2_
 clear n0_ n1_ n2_
 clear d5 g1 g2
 have hHeld:W5.cell? ⟨w.heap.size,0,none⟩=some (.int .i64 fl)∧W5.cell? ⟨w.heap.size,1,none⟩=some (.slice A0 l0.length c0):=⟨(blk_cell (HD.out.at_ 0 _ _ rfl) 0).trans rfl,(blk_cell (HD.out.at_ 0 _ _ rfl) 1).trans rfl⟩
 obtain ⟨Ax,cx,ex⟩:=Kd.R_slice G2.out
 subst ex
 refine norm_ (a':=?_) ?_ ?_
 rotate_left
 ·simp only [putAll,Act.put,List.setIfInBounds_toArray,List.set_cons_zero,List.set_cons_succ]
  rfl
 refine one_ (i:=7) (N:=some 41) (TF [8,1,4,2]) rfl rfl (by kernel_rfl) (by decide) (fun K hK=>?_)
 refine Kd.R_append_rows_step Kd.string (w0:=w) w.heap.size (by rfl) (.tmp 38) (.tmp 40) 31 9 (.string ⟨#[]⟩) 16 rfl Tryd.underlying31 info9 rfl (by decide) (by omega) v1 l0 [s1] _ _ _ (fun _=>True) (fun _=>False) rfl rfl G1.out ?aR (fun _ _ h=>h) (fun _ h=>h.elim) (fun _ _=>trivial) HD.out.bel HD.out.bel.size ?aL ?_
 (case aR=>exact (Kd.R_reads' G2.out).2.2)
 (case aL=>have:=LM.out;simp;omega)
 intro v3 W6 ho hb hg hat
 obtain ⟨y,hy⟩: ∃y:List ByteArray,y=l0++[s1]:=⟨_,rfl⟩
 rw [← hy] at ho
 have HY:=Aside0.mk hy
 clear hy
 have n0_:=Aside0.mk (HD.out.grown hg hb (HD.out.ne G1.out (Bx.types4 (by decide) (by decide) (by decide) (by decide))))
 have n1_:=Aside0.mk (ho)
 clear HD
 (try clear G3)
 have HD:=n0_
 have G3:=n1_
 clear n0_ n1_
 clear ho hb hg hat G1 G2
 obtain ⟨A3,c3,e3⟩:=Kd.R_slice G3.out
 subst e3
 have z20:W6.cell? ⟨w.heap.size+1+1,0,none⟩=some (.int .i64 0):=(blk_cell (HD.out.at_ 2 _ _ rfl) 0).trans rfl
 have y20:W6.frozen? ⟨w.heap.size+1+1,0,none⟩=false:=blk_frozen (HD.out.at_ 2 _ _ rfl) 0
 have z21:W6.cell? ⟨w.heap.size+1+1,1,none⟩=some (.slice none 0 0):=(blk_cell (HD.out.at_ 2 _ _ rfl) 1).trans rfl
 have y21:W6.frozen? ⟨w.heap.size+1+1,1,none⟩=false:=blk_frozen (HD.out.at_ 2 _ _ rfl) 1
 have z30:W6.cell? ⟨w.heap.size+1+1+1,0,none⟩=some (.int .i64 0):=(blk_cell (HD.out.at_ 3 _ _ rfl) 0).trans rfl
 have y30:W6.frozen? ⟨w.heap.size+1+1+1,0,none⟩=false:=blk_frozen (HD.out.at_ 3 _ _ rfl) 0
 have z31:W6.cell? ⟨w.heap.size+1+1+1,1,none⟩=some (.int .i64 0):=(blk_cell (HD.out.at_ 3 _ _ rfl) 1).trans rfl
 have y31:W6.frozen? ⟨w.heap.size+1+1+1,1,none⟩=false:=blk_frozen (HD.out.at_ 3 _ _ rfl) 1
 have z32:W6.cell? ⟨w.heap.size+1+1+1,2,none⟩=some (.int .i64 0):=(blk_cell (HD.out.at_ 3 _ _ rfl) 2).trans rfl
 have y32:W6.frozen? ⟨w.heap.size+1+1+1,2,none⟩=false:=blk_frozen (HD.out.at_ 3 _ _ rfl) 2
 have z33:W6.cell? ⟨w.heap.size+1+1+1,3,none⟩=some (.slice none 0 0):=(blk_cell (HD.out.at_ 3 _ _ rfl) 3).trans rfl
 have y33:W6.frozen? ⟨w.heap.size+1+1+1,3,none⟩=false:=blk_frozen (HD.out.at_ 3 _ _ rfl) 3
 have z34:W6.cell? ⟨w.heap.size+1+1+1,4,none⟩=some (.slice none 0 0):=(blk_cell (HD.out.at_ 3 _ _ rfl) 4).trans rfl
 have y34:W6.frozen? ⟨w.heap.size+1+1+1,4,none⟩=false:=blk_frozen (HD.out.at_ 3 _ _ rfl) 4
 refine hK.out _ _ ⟨(blk_cell (HD.out.at_ 0 _ _ rfl) 0).trans rfl,(blk_cell (HD.out.at_ 0 _ _ rfl) 1).trans rfl⟩ (fun hHeld=>?_)
 clear hK K
 refine norm_ (a':=?_) ?_ ?_
 rotate_left
 ·show Act.put _ (some 41) _=_
  simp only [Act.put,List.setIfInBounds_toArray,List.set_cons_zero,List.set_cons_succ,i64_w]
  rfl
 apply pu 8 (some 42) [13,2] rfl rfl (by kernel_rfl) (fun _ _ _ h=>h) (by rfl)
 ·intro w';go_simp;with_reducible rfl
 ·simp only [Act.put,List.setIfInBounds_toArray,List.set_cons_zero,List.set_cons_succ,i64_w];rfl
 refine one_ (i:=13) (N:=none) (TF [14,1]) rfl rfl (by kernel_rfl) (by decide) (fun K hK=>?_)
 refine skip_ (w1:=?_) (by rfl) rfl ?_ ?_
 rotate_left
 ·go_simp
  rfl
 refine hK.out _ _ ⟨(cell_far (p:=⟨w.heap.size+1+1,_,none⟩) (show w.heap.size≠w.heap.size+1+1 by omega) _).trans ((cell_far (p:=⟨w.heap.size+1+1,_,none⟩) (show w.heap.size≠w.heap.size+1+1 by omega) _).trans (hHeld.1)),(cell_far (p:=⟨w.heap.size+1+1,_,none⟩) (show w.heap.size≠w.heap.size+1+1 by omega) _).trans ((cell_far (p:=⟨w.heap.size+1+1,_,none⟩) (show w.heap.size≠w.heap.size+1+1 by omega) _).trans (hHeld.2))⟩ (fun hHeld=>?_)
 clear hK K
 refine last_ (i:=14) (N:=none) (TF [15]) rfl rfl (by kernel_rfl) (by decide) (fun K hK=>?_)
 refine skip_ (w1:=?_) (by rfl) rfl ?_ ?_
 rotate_left
 ·go_simp
  rfl
 refine hK.out _ _ ?_
 clear hK K
 refine done_ (by kernel_rfl) ?_
 go_wp2
 have P:=put_res (HD.out.at_ 2 _ _ rfl) (HD.out.at_ 3 _ _ rfl) (by omega) (.int .i64 fl) (.slice A3 y.length c3) (.int .i64 0) (.int .i64 (l0.length:Int)) (.int .i64 fl) (.slice none 0 0) (.slice none 0 0)
 refine bodyPost_ret (results_cc rfl _ _ (w.heap.size+1+1) (w.heap.size+1+1+1) 36 39 #[.int .i64 fl, .slice A3 y.length c3] #[.int .i64 0, .int .i64 (l0.length:Int), .int .i64 fl, .slice none 0 0, .slice none 0 0] (0,0) (0,0) _ _ rfl P.1 Tryd.underlying36 rfl (by kernel_rfl) rfl P.2.1 Tryd.underlying39 rfl (by kernel_rfl)) rfl ?_
 refine ⟨_,_,_,rfl, .inr (by rw [← HY.out];exact R_only G3.out (HD.out.at_ 2 _ _ rfl) (HD.out.at_ 3 _ _ rfl) (by decide) (by decide) P.2.2),Kd.R_nil _ _ _ _ _,Kd.R_nil _ _ _ _ _,?_⟩
 iterate 7 refine below_set ?_ (by omega)
 exact HD.out.bel
def speech_Do.f (k:Nat) (fl:Int) (tr:List ByteArray) (kind gen:Int) (files:List S66):Option (Int × List ByteArray × Int × Int × Int × List S66 × List ByteArray):=
 if kind=1 then ((image_Of.f k files).bind fun s=>if s.2=0 then (if 32≤wrap64 ((tr.length:Int) - fl) then some (fl,tr,7,0,0,[],[]) else if tr.length < 8796093022207 then some (fl,tr++[s.1],0,(tr.length:Int),fl,[],[]) else none) else some (fl,tr,s.2,0,0,[],[]))
 else if kind=2 then ((speech_restore.f k fl tr (wrap64 ((tr.length:Int) - 1))).bind fun a=>some (fl,tr,a.1,a.2.1,a.2.2.1,a.2.2.2.1,a.2.2.2.2))
 else if kind=3 then (if gen < 0 then some (fl,tr,2,0,0,[],[]) else ((speech_restore.f k fl tr gen).bind fun a=>some (fl,tr,a.1,a.2.1,a.2.2.1,a.2.2.2.1,a.2.2.2.2)))
 else if kind=4 then some (fl,tr,0,(tr.length:Int),fl,[],[])
 else if kind=6 then some (fl,tr,0,(tr.length:Int),fl,[],[])
 else if kind=5 then (if gen < 0 then some (fl,tr,2,0,0,[],[]) else if gen≤fl then some (fl,tr,0,(tr.length:Int),fl,[],[]) else if (tr.length:Int)≤gen then some (fl,tr,2,0,0,[],[]) else some (gen,tr,0,(tr.length:Int),gen,[],[]))
 else some (fl,tr,1,0,0,[],[])
theorem bt_ (x y:Int) (h:x=y):(x == y)=true:=beq_iff_eq.mpr h
theorem bf_ (x y:Int) (h: ¬x=y):(x == y)=false:=beq_eq_false_iff_ne.mpr h
theorem nt_ (x y:Int) (h: ¬x=y):(x != y)=true:=bne_iff_ne.mpr h
theorem nf_ (x y:Int) (h:x=y):(x != y)=false:=bne_eq_false_iff_eq.mpr h
theorem speech_Do.calls (k:Nat) (fl:Int) (A0:Option Addr) (c0:Nat) (l0:List ByteArray) (kind gen:Int) (A1:Option Addr) (c1:Nat) (l1:List S66) (w:World) (hr0:Kd.C Kd.string w A0 l0.length l0) (hc0:l0.length≤c0) (hr1:Kd.C k66 w A1 l1.length l1) (hc1:l1.length≤c1) (r:Int × List ByteArray × Int × Int × Int × List S66 × List ByteArray) (h:speech_Do.f k fl l0 kind gen l1=some r):
  Calls Tryd.prog 18 #[.agg #[.int .i64 fl, .slice A0 l0.length c0], .agg #[.int .i64 kind, .int .i64 gen, .slice A1 l1.length c1]] w (DoPost w A0 c0 l0 r):=by
 unfold speech_Do.f at h
 by_cases h1:kind=1
 ·rw [if_pos h1] at h
  obtain ⟨⟨s1,e1⟩,hs,h⟩:=Option.bind_eq_some_iff.mp h
  replace h:(if e1=0 then (if 32≤wrap64 ((l0.length:Int) - fl) then some (fl,l0,7,0,0,[],[]) else if l0.length < 8796093022207 then some (fl,l0++[s1],0,(l0.length:Int),fl,[],[]) else none) else some (fl,l0,e1,0,0,[],[]))=some r:=h
  by_cases he:e1=0
  ·rw [if_pos he] at h
   by_cases hq:32≤wrap64 ((l0.length:Int) - fl)
   ·rw [if_pos hq] at h
    obtain rfl:=Option.some.inj h
    exact speech_Do.one_full k fl A0 c0 l0 kind gen A1 c1 l1 w hr0 hc0 hr1 hc1 s1 e1 hs (bt_ _ _ h1) (bt_ _ _ he) (nf_ _ _ he) (decide_eq_true hq)
   ·rw [if_neg hq] at h
    by_cases hl:l0.length < 8796093022207
    ·rw [if_pos hl] at h
     obtain rfl:=Option.some.inj h
     exact speech_Do.one_ok k fl A0 c0 l0 kind gen A1 c1 l1 w hr0 hc0 hr1 hc1 s1 e1 hs (bt_ _ _ h1) (bt_ _ _ he) (nf_ _ _ he) (decide_eq_false hq) hl
    ·rw [if_neg hl] at h
     exact absurd h (by simp)
  ·rw [if_neg he] at h
   obtain rfl:=Option.some.inj h
   exact speech_Do.one_err k fl A0 c0 l0 kind gen A1 c1 l1 w hr0 hc0 hr1 hc1 s1 e1 hs (bt_ _ _ h1) (bf_ _ _ he) (nt_ _ _ he)
 rw [if_neg h1] at h
 by_cases h2:kind=2
 ·rw [if_pos h2] at h
  obtain ⟨⟨a1,a2,a3,a4,a5⟩,hs,h⟩:=Option.bind_eq_some_iff.mp h
  obtain rfl:=Option.some.inj h
  exact speech_Do.two k fl A0 c0 l0 kind gen A1 c1 l1 w hr0 hc0 hr1 hc1 (bf_ _ _ h1) (bt_ _ _ h2) a1 a2 a3 a4 a5 hs
 rw [if_neg h2] at h
 by_cases h3:kind=3
 ·rw [if_pos h3] at h
  by_cases hg:gen < 0
  ·rw [if_pos hg] at h
   obtain rfl:=Option.some.inj h
   exact speech_Do.three_neg k fl A0 c0 l0 kind gen A1 c1 l1 w hr0 hc0 hr1 hc1 (bf_ _ _ h1) (bf_ _ _ h2) (bt_ _ _ h3) (decide_eq_true hg)
  ·rw [if_neg hg] at h
   obtain ⟨⟨a1,a2,a3,a4,a5⟩,hs,h⟩:=Option.bind_eq_some_iff.mp h
   obtain rfl:=Option.some.inj h
   exact speech_Do.three k fl A0 c0 l0 kind gen A1 c1 l1 w hr0 hc0 hr1 hc1 (bf_ _ _ h1) (bf_ _ _ h2) (bt_ _ _ h3) (decide_eq_false hg) a1 a2 a3 a4 a5 hs
 rw [if_neg h3] at h
 by_cases h4:kind=4
 ·rw [if_pos h4] at h
  obtain rfl:=Option.some.inj h
  exact speech_Do.four k fl A0 c0 l0 kind gen A1 c1 l1 w hr0 hc0 hr1 hc1 (bf_ _ _ h1) (bf_ _ _ h2) (bf_ _ _ h3) (bt_ _ _ h4)
 rw [if_neg h4] at h
 by_cases h6:kind=6
 ·rw [if_pos h6] at h
  obtain rfl:=Option.some.inj h
  exact speech_Do.six k fl A0 c0 l0 kind gen A1 c1 l1 w hr0 hc0 hr1 hc1 (bf_ _ _ h1) (bf_ _ _ h2) (bf_ _ _ h3) (bf_ _ _ h4) (bt_ _ _ h6)
 rw [if_neg h6] at h
 by_cases h5:kind=5
 ·rw [if_pos h5] at h
  by_cases hg:gen < 0
  ·rw [if_pos hg] at h
   obtain rfl:=Option.some.inj h
   exact speech_Do.five_neg k fl A0 c0 l0 kind gen A1 c1 l1 w hr0 hc0 hr1 hc1 (bf_ _ _ h1) (bf_ _ _ h2) (bf_ _ _ h3) (bf_ _ _ h4) (bf_ _ _ h6) (bt_ _ _ h5) (decide_eq_true hg)
  ·rw [if_neg hg] at h
   by_cases hf:gen≤fl
   ·rw [if_pos hf] at h
    obtain rfl:=Option.some.inj h
    exact speech_Do.five_low k fl A0 c0 l0 kind gen A1 c1 l1 w hr0 hc0 hr1 hc1 (bf_ _ _ h1) (bf_ _ _ h2) (bf_ _ _ h3) (bf_ _ _ h4) (bf_ _ _ h6) (bt_ _ _ h5) (decide_eq_false hg) (decide_eq_true hf)
   ·rw [if_neg hf] at h
    by_cases hn:(l0.length:Int)≤gen
    ·rw [if_pos hn] at h
     obtain rfl:=Option.some.inj h
     exact speech_Do.five_high k fl A0 c0 l0 kind gen A1 c1 l1 w hr0 hc0 hr1 hc1 (bf_ _ _ h1) (bf_ _ _ h2) (bf_ _ _ h3) (bf_ _ _ h4) (bf_ _ _ h6) (bt_ _ _ h5) (decide_eq_false hg) (decide_eq_false hf) (decide_eq_true hn)
    ·rw [if_neg hn] at h
     obtain rfl:=Option.some.inj h
     exact speech_Do.five_ok k fl A0 c0 l0 kind gen A1 c1 l1 w hr0 hc0 hr1 hc1 (bf_ _ _ h1) (bf_ _ _ h2) (bf_ _ _ h3) (bf_ _ _ h4) (bf_ _ _ h6) (bt_ _ _ h5) (decide_eq_false hg) (decide_eq_false hf) (decide_eq_false hn)
 ·rw [if_neg h5] at h
  obtain rfl:=Option.some.inj h
  exact speech_Do.dflt k fl A0 c0 l0 kind gen A1 c1 l1 w hr0 hc0 hr1 hc1 (bf_ _ _ h1) (bf_ _ _ h2) (bf_ _ _ h3) (bf_ _ _ h4) (bf_ _ _ h6) (bf_ _ _ h5)
end Go.Proofs.YthejnffhfmdpnaaDoor.Q

end

section
namespace Go.Proofs.YthejnffhfmdpnaaDoor.Q
open Go.RowKit Go.Proofs.YthejnffhfmdpnaaDoorW.PrintWords Go.Proofs.YthejnffhfmdpnaaDoorW.PrintLast Go.Proofs.YthejnffhfmdpnaaDoorW.PrintMore
set_option linter.unusedVariables false
def barquelaw22_has.f (k:Nat) (a0_0:Int) (l0_1:List ByteArray) (a1:Int):Option (Int × Int × Int × (List (S66)) × List ByteArray):=some (restoreP a0_0 l0_1 a1)
theorem barquelaw22_has.calls (k:Nat) (a0_0:Int) (A0_1:Option Addr) (c0_1:Nat) (l0_1:List ByteArray) (a1:Int) (r1:Int) (r2:Int) (r3:Int) (r4:List (S66)) (r5:List ByteArray) (w:World) (hr0_1:Kd.C Kd.string w A0_1 l0_1.length l0_1) (hc0_1:l0_1.length≤c0_1) (h:barquelaw22_has.f k a0_0 l0_1 a1=some (r1,r2,r3,r4,r5)):
  Calls Tryd.prog 31 #[.agg #[.int .i64 a0_0, .slice A0_1 l0_1.length c0_1], .int .i64 a1] w fun e w'=> ∃v3_ v4_:Value,e= .returned (.agg #[.int .i64 r1, .int .i64 r2, .int .i64 r3,v3_,v4_])∧Kd.R k66 66 w' w.heap.size (fun _=>True) v3_ r4∧Kd.R Kd.string 9 w' w.heap.size (fun _=>True) v4_ r5∧Below w.heap.size w w':=by
 have:=rest31_calls a0_0 A0_1 c0_1 l0_1 a1 w hr0_1
 rw [Option.some.inj h] at this
 exact this
end Go.Proofs.YthejnffhfmdpnaaDoor.Q

end

section
namespace Go.Proofs.YthejnffhfmdpnaaDoor.Q
open Go.RowKit Go.Proofs.YthejnffhfmdpnaaDoorW.PrintWords Go.Proofs.YthejnffhfmdpnaaDoorW.PrintLast Go.Proofs.YthejnffhfmdpnaaDoorW.PrintMore
set_option linter.unusedVariables false
set_option linter.unusedSimpArgs false
theorem str_apart {w:World} {base:Nat} {ok ok2:Nat→Prop} {v:Value} {xs:List ByteArray} (h:Kd.string.R 9 w base ok v xs) (hok: ∀k,v.ownBlock=some k→ok2 k):Kd.string.R 9 w base (fun k=>True∧ok2 k) v xs:=Kd.R_of_own (h1:=fun _=>rfl) (Kd.own_of_R (h1:=fun _=>rfl) h) (fun k hk=>⟨trivial,hok k hk⟩)
theorem new_apart {w:World} {base:Nat} {ok:Nat→Prop} {u v:Value} {xs:List ByteArray} (h:Kd.string.R 9 w base ok u xs) (hn: ∃b,v.ownBlock=some b∧w.heap.size≤b): ∀k,v.ownBlock=some k→some k≠u.ownBlock:=by
 intro k hk he
 obtain ⟨b,hb,hle⟩:=hn
 rw [hk] at hb
 obtain rfl:=Option.some.inj hb
 have:=(World.ownsRow.lt (Kd.own_of_R (h1:=fun _=>rfl) h) k he.symm).2
 omega
theorem apart_new {w:World} {base:Nat} {ok:Nat→Prop} {u v:Value} {xs:List ByteArray} (h:Kd.string.R 9 w base ok u xs) (hn: ∃b,v.ownBlock=some b∧w.heap.size≤b): ∀k,u.ownBlock=some k→some k≠v.ownBlock:=by
 intro k hk he
 obtain ⟨b,hb,hle⟩:=hn
 rw [hb] at he
 obtain rfl:=Option.some.inj he
 have:=(World.ownsRow.lt (Kd.own_of_R (h1:=fun _=>rfl) h) k hk).2
 omega
set_option maxHeartbeats 8000000 in
set_option maxRecDepth 100000 in
theorem barquelaw22_do.dflt (k:Nat) (fl:Int) (A0:Option Addr) (c0:Nat) (l0:List ByteArray) (kind gen:Int) (A1:Option Addr) (c1:Nat) (l1:List S66) (w:World) (hr0:Kd.C Kd.string w A0 l0.length l0) (hc0:l0.length≤c0) (hr1:Kd.C k66 w A1 l1.length l1) (hc1:l1.length≤c1) (h1:(kind == 1)=false) (h2:(kind == 2)=false) (h3:(kind == 3)=false) (h4:(kind == 4)=false) (h6:(kind == 6)=false) (h5:(kind == 5)=false):
  Calls Tryd.prog 16 #[.agg #[.int .i64 fl, .slice A0 l0.length c0], .agg #[.int .i64 kind, .int .i64 gen, .slice A1 l1.length c1]] w (DoPost w A0 c0 l0 (fl,l0,1,0,0,[],[])):=by
 have hlm:=hr0.2.1
 have HR0:=Aside0.mk hr0
 have HC0:=Aside0.mk hc0
 have HR1:=Aside0.mk hr1
 have HC1:=Aside0.mk hc1
 clear hr0 hc0 hr1 hc1
 go_enter Tryd.func16,Tryd.ntmps16
 go_wp2
 refine bodyPost_ret (v:= .tuple #[.agg #[.int .i64 (fl), .slice A0 l0.length c0], .agg #[.int .i64 (1), .int .i64 (0), .int .i64 (0), .slice none 0 0, .slice none 0 0]]) (by simp [results,Tryd.results16,go_sem]) rfl ?_
 exact ⟨_,_,_,rfl, .inl ⟨rfl,rfl⟩,Kd.R_nil _ _ _ _ _,Kd.R_nil _ _ _ _ _,(by repeat (first|exact Below.refl _ _|apply below_alloc|apply below_drew|apply pw_below_drewN))⟩
set_option maxHeartbeats 8000000 in
set_option maxRecDepth 100000 in
theorem barquelaw22_do.four (k:Nat) (fl:Int) (A0:Option Addr) (c0:Nat) (l0:List ByteArray) (kind gen:Int) (A1:Option Addr) (c1:Nat) (l1:List S66) (w:World) (hr0:Kd.C Kd.string w A0 l0.length l0) (hc0:l0.length≤c0) (hr1:Kd.C k66 w A1 l1.length l1) (hc1:l1.length≤c1) (h1:(kind == 1)=false) (h2:(kind == 2)=false) (h3:(kind == 3)=false) (h4:(kind == 4)=true):
  Calls Tryd.prog 16 #[.agg #[.int .i64 fl, .slice A0 l0.length c0], .agg #[.int .i64 kind, .int .i64 gen, .slice A1 l1.length c1]] w (DoPost w A0 c0 l0 (fl,l0,0,(l0.length:Int),fl,[],[])):=by
 have hlm:=hr0.2.1
 have HR0:=Aside0.mk hr0
 have HC0:=Aside0.mk hc0
 have HR1:=Aside0.mk hr1
 have HC1:=Aside0.mk hc1
 clear hr0 hc0 hr1 hc1
 go_enter Tryd.func16,Tryd.ntmps16
 go_wp2
 go_region
 go_wp2
 refine bodyPost_ret (v:= .tuple #[.agg #[.int .i64 (fl), .slice A0 l0.length c0], .agg #[.int .i64 (0), .int .i64 ((l0.length:Int)), .int .i64 (fl), .slice none 0 0, .slice none 0 0]]) (by simp [results,Tryd.results16,go_sem]) rfl ?_
 exact ⟨_,_,_,rfl, .inl ⟨rfl,rfl⟩,Kd.R_nil _ _ _ _ _,Kd.R_nil _ _ _ _ _,(by repeat (first|exact Below.refl _ _|apply below_alloc|apply below_drew|apply pw_below_drewN))⟩
set_option maxHeartbeats 8000000 in
set_option maxRecDepth 100000 in
theorem barquelaw22_do.six (k:Nat) (fl:Int) (A0:Option Addr) (c0:Nat) (l0:List ByteArray) (kind gen:Int) (A1:Option Addr) (c1:Nat) (l1:List S66) (w:World) (hr0:Kd.C Kd.string w A0 l0.length l0) (hc0:l0.length≤c0) (hr1:Kd.C k66 w A1 l1.length l1) (hc1:l1.length≤c1) (h1:(kind == 1)=false) (h2:(kind == 2)=false) (h3:(kind == 3)=false) (h4:(kind == 4)=false) (h6:(kind == 6)=true):
  Calls Tryd.prog 16 #[.agg #[.int .i64 fl, .slice A0 l0.length c0], .agg #[.int .i64 kind, .int .i64 gen, .slice A1 l1.length c1]] w (DoPost w A0 c0 l0 (fl,l0,0,(l0.length:Int),fl,[],[])):=by
 have hlm:=hr0.2.1
 have HR0:=Aside0.mk hr0
 have HC0:=Aside0.mk hc0
 have HR1:=Aside0.mk hr1
 have HC1:=Aside0.mk hc1
 clear hr0 hc0 hr1 hc1
 go_enter Tryd.func16,Tryd.ntmps16
 go_wp2
 go_region
 go_wp2
 refine bodyPost_ret (v:= .tuple #[.agg #[.int .i64 (fl), .slice A0 l0.length c0], .agg #[.int .i64 (0), .int .i64 ((l0.length:Int)), .int .i64 (fl), .slice none 0 0, .slice none 0 0]]) (by simp [results,Tryd.results16,go_sem]) rfl ?_
 exact ⟨_,_,_,rfl, .inl ⟨rfl,rfl⟩,Kd.R_nil _ _ _ _ _,Kd.R_nil _ _ _ _ _,(by repeat (first|exact Below.refl _ _|apply below_alloc|apply below_drew|apply pw_below_drewN))⟩
set_option maxHeartbeats 8000000 in
set_option maxRecDepth 100000 in
theorem barquelaw22_do.three_neg (k:Nat) (fl:Int) (A0:Option Addr) (c0:Nat) (l0:List ByteArray) (kind gen:Int) (A1:Option Addr) (c1:Nat) (l1:List S66) (w:World) (hr0:Kd.C Kd.string w A0 l0.length l0) (hc0:l0.length≤c0) (hr1:Kd.C k66 w A1 l1.length l1) (hc1:l1.length≤c1) (h1:(kind == 1)=false) (h2:(kind == 2)=false) (h3:(kind == 3)=true) (hg:decide (gen < 0)=true):
  Calls Tryd.prog 16 #[.agg #[.int .i64 fl, .slice A0 l0.length c0], .agg #[.int .i64 kind, .int .i64 gen, .slice A1 l1.length c1]] w (DoPost w A0 c0 l0 (fl,l0,2,0,0,[],[])):=by
 have hlm:=hr0.2.1
 have HR0:=Aside0.mk hr0
 have HC0:=Aside0.mk hc0
 have HR1:=Aside0.mk hr1
 have HC1:=Aside0.mk hc1
 clear hr0 hc0 hr1 hc1
 go_enter Tryd.func16,Tryd.ntmps16
 go_wp2
 refine bodyPost_ret (v:= .tuple #[.agg #[.int .i64 (fl), .slice A0 l0.length c0], .agg #[.int .i64 (2), .int .i64 (0), .int .i64 (0), .slice none 0 0, .slice none 0 0]]) (by simp [results,Tryd.results16,go_sem]) rfl ?_
 exact ⟨_,_,_,rfl, .inl ⟨rfl,rfl⟩,Kd.R_nil _ _ _ _ _,Kd.R_nil _ _ _ _ _,(by repeat (first|exact Below.refl _ _|apply below_alloc|apply below_drew|apply pw_below_drewN))⟩
set_option maxHeartbeats 8000000 in
set_option maxRecDepth 100000 in
theorem barquelaw22_do.five_neg (k:Nat) (fl:Int) (A0:Option Addr) (c0:Nat) (l0:List ByteArray) (kind gen:Int) (A1:Option Addr) (c1:Nat) (l1:List S66) (w:World) (hr0:Kd.C Kd.string w A0 l0.length l0) (hc0:l0.length≤c0) (hr1:Kd.C k66 w A1 l1.length l1) (hc1:l1.length≤c1) (h1:(kind == 1)=false) (h2:(kind == 2)=false) (h3:(kind == 3)=false) (h4:(kind == 4)=false) (h6:(kind == 6)=false) (h5:(kind == 5)=true) (hg:decide (gen < 0)=true):
  Calls Tryd.prog 16 #[.agg #[.int .i64 fl, .slice A0 l0.length c0], .agg #[.int .i64 kind, .int .i64 gen, .slice A1 l1.length c1]] w (DoPost w A0 c0 l0 (fl,l0,2,0,0,[],[])):=by
 have hlm:=hr0.2.1
 have HR0:=Aside0.mk hr0
 have HC0:=Aside0.mk hc0
 have HR1:=Aside0.mk hr1
 have HC1:=Aside0.mk hc1
 clear hr0 hc0 hr1 hc1
 go_enter Tryd.func16,Tryd.ntmps16
 go_wp2
 refine bodyPost_ret (v:= .tuple #[.agg #[.int .i64 (fl), .slice A0 l0.length c0], .agg #[.int .i64 (2), .int .i64 (0), .int .i64 (0), .slice none 0 0, .slice none 0 0]]) (by simp [results,Tryd.results16,go_sem]) rfl ?_
 exact ⟨_,_,_,rfl, .inl ⟨rfl,rfl⟩,Kd.R_nil _ _ _ _ _,Kd.R_nil _ _ _ _ _,(by repeat (first|exact Below.refl _ _|apply below_alloc|apply below_drew|apply pw_below_drewN))⟩
set_option maxHeartbeats 8000000 in
set_option maxRecDepth 100000 in
theorem barquelaw22_do.five_low (k:Nat) (fl:Int) (A0:Option Addr) (c0:Nat) (l0:List ByteArray) (kind gen:Int) (A1:Option Addr) (c1:Nat) (l1:List S66) (w:World) (hr0:Kd.C Kd.string w A0 l0.length l0) (hc0:l0.length≤c0) (hr1:Kd.C k66 w A1 l1.length l1) (hc1:l1.length≤c1) (h1:(kind == 1)=false) (h2:(kind == 2)=false) (h3:(kind == 3)=false) (h4:(kind == 4)=false) (h6:(kind == 6)=false) (h5:(kind == 5)=true) (hg:decide (gen < 0)=false) (hf:decide (fl < gen)=false):
  Calls Tryd.prog 16 #[.agg #[.int .i64 fl, .slice A0 l0.length c0], .agg #[.int .i64 kind, .int .i64 gen, .slice A1 l1.length c1]] w (DoPost w A0 c0 l0 (fl,l0,0,(l0.length:Int),fl,[],[])):=by
 have hlm:=hr0.2.1
 have HR0:=Aside0.mk hr0
 have HC0:=Aside0.mk hc0
 have HR1:=Aside0.mk hr1
 have HC1:=Aside0.mk hc1
 clear hr0 hc0 hr1 hc1
 go_enter Tryd.func16,Tryd.ntmps16
 go_wp2
 go_region
 go_wp2
 refine bodyPost_ret (v:= .tuple #[.agg #[.int .i64 (fl), .slice A0 l0.length c0], .agg #[.int .i64 (0), .int .i64 ((l0.length:Int)), .int .i64 (fl), .slice none 0 0, .slice none 0 0]]) (by simp [results,Tryd.results16,go_sem]) rfl ?_
 exact ⟨_,_,_,rfl, .inl ⟨rfl,rfl⟩,Kd.R_nil _ _ _ _ _,Kd.R_nil _ _ _ _ _,(by repeat (first|exact Below.refl _ _|apply below_alloc|apply below_drew|apply pw_below_drewN))⟩
set_option maxHeartbeats 8000000 in
set_option maxRecDepth 100000 in
theorem barquelaw22_do.five_high (k:Nat) (fl:Int) (A0:Option Addr) (c0:Nat) (l0:List ByteArray) (kind gen:Int) (A1:Option Addr) (c1:Nat) (l1:List S66) (w:World) (hr0:Kd.C Kd.string w A0 l0.length l0) (hc0:l0.length≤c0) (hr1:Kd.C k66 w A1 l1.length l1) (hc1:l1.length≤c1) (h1:(kind == 1)=false) (h2:(kind == 2)=false) (h3:(kind == 3)=false) (h4:(kind == 4)=false) (h6:(kind == 6)=false) (h5:(kind == 5)=true) (hg:decide (gen < 0)=false) (hf:decide (fl < gen)=true) (hn:decide ((l0.length:Int)≤gen)=true):
  Calls Tryd.prog 16 #[.agg #[.int .i64 fl, .slice A0 l0.length c0], .agg #[.int .i64 kind, .int .i64 gen, .slice A1 l1.length c1]] w (DoPost w A0 c0 l0 (fl,l0,2,0,0,[],[])):=by
 have hlm:=hr0.2.1
 have HR0:=Aside0.mk hr0
 have HC0:=Aside0.mk hc0
 have HR1:=Aside0.mk hr1
 have HC1:=Aside0.mk hc1
 clear hr0 hc0 hr1 hc1
 go_enter Tryd.func16,Tryd.ntmps16
 go_wp2
 refine bodyPost_ret (v:= .tuple #[.agg #[.int .i64 (fl), .slice A0 l0.length c0], .agg #[.int .i64 (2), .int .i64 (0), .int .i64 (0), .slice none 0 0, .slice none 0 0]]) (by simp [results,Tryd.results16,go_sem]) rfl ?_
 exact ⟨_,_,_,rfl, .inl ⟨rfl,rfl⟩,Kd.R_nil _ _ _ _ _,Kd.R_nil _ _ _ _ _,(by repeat (first|exact Below.refl _ _|apply below_alloc|apply below_drew|apply pw_below_drewN))⟩
set_option maxHeartbeats 8000000 in
set_option maxRecDepth 100000 in
theorem barquelaw22_do.five_ok (k:Nat) (fl:Int) (A0:Option Addr) (c0:Nat) (l0:List ByteArray) (kind gen:Int) (A1:Option Addr) (c1:Nat) (l1:List S66) (w:World) (hr0:Kd.C Kd.string w A0 l0.length l0) (hc0:l0.length≤c0) (hr1:Kd.C k66 w A1 l1.length l1) (hc1:l1.length≤c1) (h1:(kind == 1)=false) (h2:(kind == 2)=false) (h3:(kind == 3)=false) (h4:(kind == 4)=false) (h6:(kind == 6)=false) (h5:(kind == 5)=true) (hg:decide (gen < 0)=false) (hf:decide (fl < gen)=true) (hn:decide ((l0.length:Int)≤gen)=false):
  Calls Tryd.prog 16 #[.agg #[.int .i64 fl, .slice A0 l0.length c0], .agg #[.int .i64 kind, .int .i64 gen, .slice A1 l1.length c1]] w (DoPost w A0 c0 l0 (gen,l0,0,(l0.length:Int),gen,[],[])):=by
 have hlm:=hr0.2.1
 have HR0:=Aside0.mk hr0
 have HC0:=Aside0.mk hc0
 have HR1:=Aside0.mk hr1
 have HC1:=Aside0.mk hc1
 clear hr0 hc0 hr1 hc1
 go_enter Tryd.func16,Tryd.ntmps16
 go_wp2
 go_region
 go_wp2
 refine bodyPost_ret (v:= .tuple #[.agg #[.int .i64 (gen), .slice A0 l0.length c0], .agg #[.int .i64 (0), .int .i64 ((l0.length:Int)), .int .i64 (gen), .slice none 0 0, .slice none 0 0]]) (by simp [results,Tryd.results16,go_sem]) rfl ?_
 exact ⟨_,_,_,rfl, .inl ⟨rfl,rfl⟩,Kd.R_nil _ _ _ _ _,Kd.R_nil _ _ _ _ _,(by repeat (first|exact Below.refl _ _|apply below_alloc|apply below_drew|apply pw_below_drewN))⟩
set_option maxHeartbeats 8000000 in
set_option maxRecDepth 100000 in
theorem barquelaw22_do.two (k:Nat) (fl:Int) (A0:Option Addr) (c0:Nat) (l0:List ByteArray) (kind gen:Int) (A1:Option Addr) (c1:Nat) (l1:List S66) (w:World) (hr0:Kd.C Kd.string w A0 l0.length l0) (hc0:l0.length≤c0) (hr1:Kd.C k66 w A1 l1.length l1) (hc1:l1.length≤c1) (h1:(kind == 1)=false) (h2:(kind == 2)=true) (r1 r2 r3:Int) (r4:List S66) (r5:List ByteArray) (h:barquelaw22_has.f k fl l0 (wrap64 ((l0.length:Int) - 1))=some (r1,r2,r3,r4,r5)):
  Calls Tryd.prog 16 #[.agg #[.int .i64 fl, .slice A0 l0.length c0], .agg #[.int .i64 kind, .int .i64 gen, .slice A1 l1.length c1]] w (DoPost w A0 c0 l0 (fl,l0,r1,r2,r3,r4,r5)):=by
 have hlm:=hr0.2.1
 have HR0:=Aside0.mk hr0
 have HC0:=Aside0.mk hc0
 have HR1:=Aside0.mk hr1
 have HC1:=Aside0.mk hc1
 clear hr0 hc0 hr1 hc1
 have HH:=Aside0.mk h
 clear h
 go_enter Tryd.func16,Tryd.ntmps16
 go_wp2
 have HD:=Aside0.mk (Bx.five w #[.int .i64 fl, .slice A0 l0.length c0] #[.int .i64 kind, .int .i64 gen, .slice A1 l1.length c1] #[.int .i64 0, .slice none 0 0] #[.int .i64 0, .int .i64 0, .int .i64 0, .slice none 0 0, .slice none 0 0] #[.int .i64 0, .int .i64 (l0.length:Int), .int .i64 fl, .slice none 0 0, .slice none 0 0] 33 43 33 39 39)
 generalize ((((w.alloc (.cells #[.int .i64 fl, .slice A0 l0.length c0] 33)).alloc (.cells #[.int .i64 kind, .int .i64 gen, .slice A1 l1.length c1] 43)).alloc (.cells #[.int .i64 0, .slice none 0 0] 33)).alloc (.cells #[.int .i64 0, .int .i64 0, .int .i64 0, .slice none 0 0, .slice none 0 0] 39)).alloc (.cells #[.int .i64 0, .int .i64 (l0.length:Int), .int .i64 fl, .slice none 0 0, .slice none 0 0] 39)=W at HD ⊢
 refine start_ (n:=7) (S:=fun w'=>w'.cell? ⟨w.heap.size,0,none⟩=some (.int .i64 fl)∧w'.cell? ⟨w.heap.size,1,none⟩=some (.slice A0 l0.length c0)) (ds:=[5,6]) (TF [0,7]) (by kernel_rfl) rfl rfl ⟨(blk_cell (HD.out.at_ 0 _ _ rfl) 0).trans rfl,(blk_cell (HD.out.at_ 0 _ _ rfl) 1).trans rfl⟩ (fun hHeld=>?_)
 have n0_:=Aside0.mk (HD.out.drew)
 clear HD
 have HD:=n0_
 clear n0_
 generalize W.drew=W1 at HD hHeld ⊢
 apply pu 2 (some 56) [0,2,1,4] rfl rfl (by kernel_rfl) (fun _ _ _ h=>h) (by rfl)
 ·intro w';go_simp;with_reducible rfl
 ·simp only [Act.put,List.setIfInBounds_toArray,List.set_cons_zero,List.set_cons_succ,i64_w];rfl
 apply pu 3 (some 57) [0,2,2,3] rfl rfl (by kernel_rfl) (fun _ _ _ h=>h) (by rfl)
 ·intro w';go_simp;with_reducible rfl
 ·simp only [Act.put,List.setIfInBounds_toArray,List.set_cons_zero,List.set_cons_succ,i64_w];rfl
 apply tk 0 (some 54) [1,1,2,3] rfl rfl (by kernel_rfl) (fun _ _ _ h=>h) hHeld (by rfl)
 ·rintro w' ⟨s0,s1⟩;go_simp;with_reducible rfl
 ·simp only [Act.put,List.setIfInBounds_toArray,List.set_cons_zero,List.set_cons_succ,i64_w];rfl
 apply tk 1 (some 55) [4,3] rfl rfl (by kernel_rfl) (fun _ _ _ h=>h) hHeld (by rfl)
 ·rintro w' ⟨s0,s1⟩;go_simp;with_reducible rfl
 ·simp only [Act.put,List.setIfInBounds_toArray,List.set_cons_zero,List.set_cons_succ,i64_w];rfl
 refine one_ (i:=4) (N:=some 58) (TF [5,2]) rfl rfl (by kernel_rfl) (by decide) (fun K hK=>?_)
 refine goes_ Tryd.func31 (by kernel_rfl) rfl #[.agg #[.int .i64 fl, .slice A0 l0.length c0], .int .i64 (wrap64 ((l0.length:Int) - 1))] (by rfl) rfl rfl (by simp only [List.map_toArray,List.map_cons,List.map_nil];rfl) ?_
 with_reducible refine (barquelaw22_has.calls k fl A0 c0 l0 (wrap64 ((l0.length:Int) - 1)) r1 r2 r3 r4 r5 W1 (Kd.C_below HR0.out HD.out.bel) HC0.out HH.out).mono ?_
 rintro e W2 ⟨v4,v5,rfl,g4,g5,hb⟩
 obtain ⟨A4,c4,rfl⟩:=Kd.R_slice g4
 obtain ⟨A5,c5,rfl⟩:=Kd.R_slice g5
 refine ⟨_,rfl,?_⟩
 have G4:=Aside0.mk (Kd.R_lower g4 HD.out.bel.size)
 have G5:=Aside0.mk (Kd.R_lower g5 HD.out.bel.size)
 have n0_:=Aside0.mk (HD.out.below hb)
 clear HD
 have HD:=n0_
 clear n0_
 clear hb g4 g5
 have z20:W2.cell? ⟨w.heap.size+1+1,0,none⟩=some (.int .i64 0):=(blk_cell (HD.out.at_ 2 _ _ rfl) 0).trans rfl
 have y20:W2.frozen? ⟨w.heap.size+1+1,0,none⟩=false:=blk_frozen (HD.out.at_ 2 _ _ rfl) 0
 have z21:W2.cell? ⟨w.heap.size+1+1,1,none⟩=some (.slice none 0 0):=(blk_cell (HD.out.at_ 2 _ _ rfl) 1).trans rfl
 have y21:W2.frozen? ⟨w.heap.size+1+1,1,none⟩=false:=blk_frozen (HD.out.at_ 2 _ _ rfl) 1
 have z30:W2.cell? ⟨w.heap.size+1+1+1,0,none⟩=some (.int .i64 0):=(blk_cell (HD.out.at_ 3 _ _ rfl) 0).trans rfl
 have y30:W2.frozen? ⟨w.heap.size+1+1+1,0,none⟩=false:=blk_frozen (HD.out.at_ 3 _ _ rfl) 0
 have z31:W2.cell? ⟨w.heap.size+1+1+1,1,none⟩=some (.int .i64 0):=(blk_cell (HD.out.at_ 3 _ _ rfl) 1).trans rfl
 have y31:W2.frozen? ⟨w.heap.size+1+1+1,1,none⟩=false:=blk_frozen (HD.out.at_ 3 _ _ rfl) 1
 have z32:W2.cell? ⟨w.heap.size+1+1+1,2,none⟩=some (.int .i64 0):=(blk_cell (HD.out.at_ 3 _ _ rfl) 2).trans rfl
 have y32:W2.frozen? ⟨w.heap.size+1+1+1,2,none⟩=false:=blk_frozen (HD.out.at_ 3 _ _ rfl) 2
 have z33:W2.cell? ⟨w.heap.size+1+1+1,3,none⟩=some (.slice none 0 0):=(blk_cell (HD.out.at_ 3 _ _ rfl) 3).trans rfl
 have y33:W2.frozen? ⟨w.heap.size+1+1+1,3,none⟩=false:=blk_frozen (HD.out.at_ 3 _ _ rfl) 3
 have z34:W2.cell? ⟨w.heap.size+1+1+1,4,none⟩=some (.slice none 0 0):=(blk_cell (HD.out.at_ 3 _ _ rfl) 4).trans rfl
 have y34:W2.frozen? ⟨w.heap.size+1+1+1,4,none⟩=false:=blk_frozen (HD.out.at_ 3 _ _ rfl) 4
 refine hK.out _ _ ⟨(blk_cell (HD.out.at_ 0 _ _ rfl) 0).trans rfl,(blk_cell (HD.out.at_ 0 _ _ rfl) 1).trans rfl⟩ (fun hHeld=>?_)
 clear hK K
 refine norm_ (a':=?_) ?_ ?_
 rotate_left
 ·show Act.put _ (some 58) _=_
  simp only [Act.put,List.setIfInBounds_toArray,List.set_cons_zero,List.set_cons_succ,i64_w]
  rfl
 refine last_ (i:=5) (N:=none) (TF [6,1]) rfl rfl (by kernel_rfl) (by decide) (fun K hK=>?_)
 refine skip_ (w1:=?_) (by rfl) rfl ?_ ?_
 rotate_left
 ·go_simp
  rfl
 refine hK.out _ _ ?_
 clear hK K
 refine last_ (i:=6) (N:=none) (TF [7]) rfl rfl (by kernel_rfl) (by decide) (fun K hK=>?_)
 refine skip_ (w1:=?_) (by rfl) rfl ?_ ?_
 rotate_left
 ·go_simp
  rfl
 refine hK.out _ _ ?_
 clear hK K
 refine done_ (by kernel_rfl) ?_
 go_wp2
 have P:=put_res (HD.out.at_ 2 _ _ rfl) (HD.out.at_ 3 _ _ rfl) (by omega) (.int .i64 fl) (.slice A0 l0.length c0) (.int .i64 r1) (.int .i64 r2) (.int .i64 r3) (.slice A4 r4.length c4) (.slice A5 r5.length c5)
 refine bodyPost_ret (results_cc rfl _ _ (w.heap.size+1+1) (w.heap.size+1+1+1) 33 39 #[.int .i64 fl, .slice A0 l0.length c0] #[.int .i64 r1, .int .i64 r2, .int .i64 r3, .slice A4 r4.length c4, .slice A5 r5.length c5] (0,0) (0,0) _ _ rfl P.1 Tryd.underlying33 rfl (by kernel_rfl) rfl P.2.1 Tryd.underlying39 rfl (by kernel_rfl)) rfl ?_
 refine ⟨_,_,_,rfl, .inl ⟨rfl,rfl⟩,R_only G4.out (HD.out.at_ 2 _ _ rfl) (HD.out.at_ 3 _ _ rfl) (by decide) (by decide) P.2.2,R_only G5.out (HD.out.at_ 2 _ _ rfl) (HD.out.at_ 3 _ _ rfl) (by decide) (by decide) P.2.2,?_⟩
 iterate 7 refine below_set ?_ (by omega)
 exact HD.out.bel
set_option maxHeartbeats 8000000 in
set_option maxRecDepth 100000 in
theorem barquelaw22_do.three (k:Nat) (fl:Int) (A0:Option Addr) (c0:Nat) (l0:List ByteArray) (kind gen:Int) (A1:Option Addr) (c1:Nat) (l1:List S66) (w:World) (hr0:Kd.C Kd.string w A0 l0.length l0) (hc0:l0.length≤c0) (hr1:Kd.C k66 w A1 l1.length l1) (hc1:l1.length≤c1) (h1:(kind == 1)=false) (h2:(kind == 2)=false) (h3:(kind == 3)=true) (hg:decide (gen < 0)=false) (r1 r2 r3:Int) (r4:List S66) (r5:List ByteArray) (h:barquelaw22_has.f k fl l0 (gen)=some (r1,r2,r3,r4,r5)):
  Calls Tryd.prog 16 #[.agg #[.int .i64 fl, .slice A0 l0.length c0], .agg #[.int .i64 kind, .int .i64 gen, .slice A1 l1.length c1]] w (DoPost w A0 c0 l0 (fl,l0,r1,r2,r3,r4,r5)):=by
 have hlm:=hr0.2.1
 have HR0:=Aside0.mk hr0
 have HC0:=Aside0.mk hc0
 have HR1:=Aside0.mk hr1
 have HC1:=Aside0.mk hc1
 clear hr0 hc0 hr1 hc1
 have HH:=Aside0.mk h
 clear h
 go_enter Tryd.func16,Tryd.ntmps16
 go_wp2
 have HD:=Aside0.mk (Bx.five w #[.int .i64 fl, .slice A0 l0.length c0] #[.int .i64 kind, .int .i64 gen, .slice A1 l1.length c1] #[.int .i64 0, .slice none 0 0] #[.int .i64 0, .int .i64 0, .int .i64 0, .slice none 0 0, .slice none 0 0] #[.int .i64 0, .int .i64 (l0.length:Int), .int .i64 fl, .slice none 0 0, .slice none 0 0] 33 43 33 39 39)
 generalize ((((w.alloc (.cells #[.int .i64 fl, .slice A0 l0.length c0] 33)).alloc (.cells #[.int .i64 kind, .int .i64 gen, .slice A1 l1.length c1] 43)).alloc (.cells #[.int .i64 0, .slice none 0 0] 33)).alloc (.cells #[.int .i64 0, .int .i64 0, .int .i64 0, .slice none 0 0, .slice none 0 0] 39)).alloc (.cells #[.int .i64 0, .int .i64 (l0.length:Int), .int .i64 fl, .slice none 0 0, .slice none 0 0] 39)=W at HD ⊢
 refine start_ (n:=7) (S:=fun w'=>w'.cell? ⟨w.heap.size,0,none⟩=some (.int .i64 fl)∧w'.cell? ⟨w.heap.size,1,none⟩=some (.slice A0 l0.length c0)∧w'.cell? ⟨w.heap.size+1,1,none⟩=some (.int .i64 gen)) (ds:=[5,6]) (TF [0,7]) (by kernel_rfl) rfl rfl ⟨(blk_cell (HD.out.at_ 0 _ _ rfl) 0).trans rfl,(blk_cell (HD.out.at_ 0 _ _ rfl) 1).trans rfl,(blk_cell (HD.out.at_ 1 _ _ rfl) 1).trans rfl⟩ (fun hHeld=>?_)
 have n0_:=Aside0.mk (HD.out.drew)
 clear HD
 have HD:=n0_
 clear n0_
 generalize W.drew=W1 at HD hHeld ⊢
 apply pu 2 (some 68) [0,2,1,4] rfl rfl (by kernel_rfl) (fun _ _ _ h=>h) (by rfl)
 ·intro w';go_simp;with_reducible rfl
 ·simp only [Act.put,List.setIfInBounds_toArray,List.set_cons_zero,List.set_cons_succ,i64_w];rfl
 apply tk 0 (some 66) [1,1,1,4] rfl rfl (by kernel_rfl) (fun _ _ _ h=>h) hHeld (by rfl)
 ·rintro w' ⟨s0,s1,s2⟩;go_simp;with_reducible rfl
 ·simp only [Act.put,List.setIfInBounds_toArray,List.set_cons_zero,List.set_cons_succ,i64_w];rfl
 apply tk 1 (some 67) [3,4] rfl rfl (by kernel_rfl) (fun _ _ _ h=>h) hHeld (by rfl)
 ·rintro w' ⟨s0,s1,s2⟩;go_simp;with_reducible rfl
 ·simp only [Act.put,List.setIfInBounds_toArray,List.set_cons_zero,List.set_cons_succ,i64_w];rfl
 apply tk 3 (some 69) [4,3] rfl rfl (by kernel_rfl) (fun _ _ _ h=>h) hHeld (by rfl)
 ·rintro w' ⟨s0,s1,s2⟩;go_simp;with_reducible rfl
 ·simp only [Act.put,List.setIfInBounds_toArray,List.set_cons_zero,List.set_cons_succ,i64_w];rfl
 refine one_ (i:=4) (N:=some 70) (TF [5,2]) rfl rfl (by kernel_rfl) (by decide) (fun K hK=>?_)
 refine goes_ Tryd.func31 (by kernel_rfl) rfl #[.agg #[.int .i64 fl, .slice A0 l0.length c0], .int .i64 (gen)] (by rfl) rfl rfl (by simp only [List.map_toArray,List.map_cons,List.map_nil];rfl) ?_
 with_reducible refine (barquelaw22_has.calls k fl A0 c0 l0 (gen) r1 r2 r3 r4 r5 W1 (Kd.C_below HR0.out HD.out.bel) HC0.out HH.out).mono ?_
 rintro e W2 ⟨v4,v5,rfl,g4,g5,hb⟩
 obtain ⟨A4,c4,rfl⟩:=Kd.R_slice g4
 obtain ⟨A5,c5,rfl⟩:=Kd.R_slice g5
 refine ⟨_,rfl,?_⟩
 have G4:=Aside0.mk (Kd.R_lower g4 HD.out.bel.size)
 have G5:=Aside0.mk (Kd.R_lower g5 HD.out.bel.size)
 have n0_:=Aside0.mk (HD.out.below hb)
 clear HD
 have HD:=n0_
 clear n0_
 clear hb g4 g5
 have z20:W2.cell? ⟨w.heap.size+1+1,0,none⟩=some (.int .i64 0):=(blk_cell (HD.out.at_ 2 _ _ rfl) 0).trans rfl
 have y20:W2.frozen? ⟨w.heap.size+1+1,0,none⟩=false:=blk_frozen (HD.out.at_ 2 _ _ rfl) 0
 have z21:W2.cell? ⟨w.heap.size+1+1,1,none⟩=some (.slice none 0 0):=(blk_cell (HD.out.at_ 2 _ _ rfl) 1).trans rfl
 have y21:W2.frozen? ⟨w.heap.size+1+1,1,none⟩=false:=blk_frozen (HD.out.at_ 2 _ _ rfl) 1
 have z30:W2.cell? ⟨w.heap.size+1+1+1,0,none⟩=some (.int .i64 0):=(blk_cell (HD.out.at_ 3 _ _ rfl) 0).trans rfl
 have y30:W2.frozen? ⟨w.heap.size+1+1+1,0,none⟩=false:=blk_frozen (HD.out.at_ 3 _ _ rfl) 0
 have z31:W2.cell? ⟨w.heap.size+1+1+1,1,none⟩=some (.int .i64 0):=(blk_cell (HD.out.at_ 3 _ _ rfl) 1).trans rfl
 have y31:W2.frozen? ⟨w.heap.size+1+1+1,1,none⟩=false:=blk_frozen (HD.out.at_ 3 _ _ rfl) 1
 have z32:W2.cell? ⟨w.heap.size+1+1+1,2,none⟩=some (.int .i64 0):=(blk_cell (HD.out.at_ 3 _ _ rfl) 2).trans rfl
 have y32:W2.frozen? ⟨w.heap.size+1+1+1,2,none⟩=false:=blk_frozen (HD.out.at_ 3 _ _ rfl) 2
 have z33:W2.cell? ⟨w.heap.size+1+1+1,3,none⟩=some (.slice none 0 0):=(blk_cell (HD.out.at_ 3 _ _ rfl) 3).trans rfl
 have y33:W2.frozen? ⟨w.heap.size+1+1+1,3,none⟩=false:=blk_frozen (HD.out.at_ 3 _ _ rfl) 3
 have z34:W2.cell? ⟨w.heap.size+1+1+1,4,none⟩=some (.slice none 0 0):=(blk_cell (HD.out.at_ 3 _ _ rfl) 4).trans rfl
 have y34:W2.frozen? ⟨w.heap.size+1+1+1,4,none⟩=false:=blk_frozen (HD.out.at_ 3 _ _ rfl) 4
 refine hK.out _ _ ⟨(blk_cell (HD.out.at_ 0 _ _ rfl) 0).trans rfl,(blk_cell (HD.out.at_ 0 _ _ rfl) 1).trans rfl,(blk_cell (HD.out.at_ 1 _ _ rfl) 1).trans rfl⟩ (fun hHeld=>?_)
 clear hK K
 refine norm_ (a':=?_) ?_ ?_
 rotate_left
 ·show Act.put _ (some 70) _=_
  simp only [Act.put,List.setIfInBounds_toArray,List.set_cons_zero,List.set_cons_succ,i64_w]
  rfl
 refine last_ (i:=5) (N:=none) (TF [6,1]) rfl rfl (by kernel_rfl) (by decide) (fun K hK=>?_)
 refine skip_ (w1:=?_) (by rfl) rfl ?_ ?_
 rotate_left
 ·go_simp
  rfl
 refine hK.out _ _ ?_
 clear hK K
 refine last_ (i:=6) (N:=none) (TF [7]) rfl rfl (by kernel_rfl) (by decide) (fun K hK=>?_)
 refine skip_ (w1:=?_) (by rfl) rfl ?_ ?_
 rotate_left
 ·go_simp
  rfl
 refine hK.out _ _ ?_
 clear hK K
 refine done_ (by kernel_rfl) ?_
 go_wp2
 have P:=put_res (HD.out.at_ 2 _ _ rfl) (HD.out.at_ 3 _ _ rfl) (by omega) (.int .i64 fl) (.slice A0 l0.length c0) (.int .i64 r1) (.int .i64 r2) (.int .i64 r3) (.slice A4 r4.length c4) (.slice A5 r5.length c5)
 refine bodyPost_ret (results_cc rfl _ _ (w.heap.size+1+1) (w.heap.size+1+1+1) 33 39 #[.int .i64 fl, .slice A0 l0.length c0] #[.int .i64 r1, .int .i64 r2, .int .i64 r3, .slice A4 r4.length c4, .slice A5 r5.length c5] (0,0) (0,0) _ _ rfl P.1 Tryd.underlying33 rfl (by kernel_rfl) rfl P.2.1 Tryd.underlying39 rfl (by kernel_rfl)) rfl ?_
 refine ⟨_,_,_,rfl, .inl ⟨rfl,rfl⟩,R_only G4.out (HD.out.at_ 2 _ _ rfl) (HD.out.at_ 3 _ _ rfl) (by decide) (by decide) P.2.2,R_only G5.out (HD.out.at_ 2 _ _ rfl) (HD.out.at_ 3 _ _ rfl) (by decide) (by decide) P.2.2,?_⟩
 iterate 7 refine below_set ?_ (by omega)
 exact HD.out.bel
set_option maxHeartbeats 8000000 in
set_option maxRecDepth 100000 in
theorem barquelaw22_do.one_err (k:Nat) (fl:Int) (A0:Option Addr) (c0:Nat) (l0:List ByteArray) (kind gen:Int) (A1:Option Addr) (c1:Nat) (l1:List S66) (w:World) (hr0:Kd.C Kd.string w A0 l0.length l0) (hc0:l0.length≤c0) (hr1:Kd.C k66 w A1 l1.length l1) (hc1:l1.length≤c1) (s1:ByteArray) (e1:Int) (h:barqueref10_Of.f k l1=some (s1,e1)) (h1:(kind == 1)=true) (he:(e1 == 0)=false) (he2:(e1 != 0)=true):
  Calls Tryd.prog 16 #[.agg #[.int .i64 fl, .slice A0 l0.length c0], .agg #[.int .i64 kind, .int .i64 gen, .slice A1 l1.length c1]] w (DoPost w A0 c0 l0 (fl,l0,e1,0,0,[],[])):=by
 have hlm:=hr0.2.1
 have HR0:=Aside0.mk hr0
 have HC0:=Aside0.mk hc0
 have HR1:=Aside0.mk hr1
 have HC1:=Aside0.mk hc1
 clear hr0 hc0 hr1 hc1
 have HS:=Aside0.mk h
 clear h
 go_enter Tryd.func16,Tryd.ntmps16
 go_wp2_with (first|(go_at_call 30;(with_reducible refine (barqueref10_Of.calls k A1 c1 l1 s1 e1 _ (Kd.C_below HR1.out (Bx.five w #[.int .i64 fl, .slice A0 l0.length c0] #[.int .i64 kind, .int .i64 gen, .slice A1 l1.length c1] #[.int .i64 0, .slice none 0 0] #[.int .i64 0, .int .i64 0, .int .i64 0, .slice none 0 0, .slice none 0 0] #[.int .i64 0, .int .i64 (l0.length:Int), .int .i64 fl, .slice none 0 0, .slice none 0 0] 33 43 33 39 39).bel) HC1.out HS.out).mono ?_);rintro e w1 ⟨rfl,hb⟩;have HD:=Aside0.mk ((Bx.five w #[.int .i64 fl, .slice A0 l0.length c0] #[.int .i64 kind, .int .i64 gen, .slice A1 l1.length c1] #[.int .i64 0, .slice none 0 0] #[.int .i64 0, .int .i64 0, .int .i64 0, .slice none 0 0, .slice none 0 0] #[.int .i64 0, .int .i64 (l0.length:Int), .int .i64 fl, .slice none 0 0, .slice none 0 0] 33 43 33 39 39).below hb);clear hb;have z00:w1.cell? ⟨w.heap.size,0,none⟩=some (.int .i64 fl):=(blk_cell (HD.out.at_ 0 _ _ rfl) 0).trans rfl;have y00:w1.frozen? ⟨w.heap.size,0,none⟩=false:=blk_frozen (HD.out.at_ 0 _ _ rfl) 0;have z01:w1.cell? ⟨w.heap.size,1,none⟩=some (.slice A0 l0.length c0):=(blk_cell (HD.out.at_ 0 _ _ rfl) 1).trans rfl;have y01:w1.frozen? ⟨w.heap.size,1,none⟩=false:=blk_frozen (HD.out.at_ 0 _ _ rfl) 1;have z20:w1.cell? ⟨w.heap.size+1+1,0,none⟩=some (.int .i64 0):=(blk_cell (HD.out.at_ 2 _ _ rfl) 0).trans rfl;have y20:w1.frozen? ⟨w.heap.size+1+1,0,none⟩=false:=blk_frozen (HD.out.at_ 2 _ _ rfl) 0;have z21:w1.cell? ⟨w.heap.size+1+1,1,none⟩=some (.slice none 0 0):=(blk_cell (HD.out.at_ 2 _ _ rfl) 1).trans rfl;have y21:w1.frozen? ⟨w.heap.size+1+1,1,none⟩=false:=blk_frozen (HD.out.at_ 2 _ _ rfl) 1;have z30:w1.cell? ⟨w.heap.size+1+1+1,0,none⟩=some (.int .i64 0):=(blk_cell (HD.out.at_ 3 _ _ rfl) 0).trans rfl;have y30:w1.frozen? ⟨w.heap.size+1+1+1,0,none⟩=false:=blk_frozen (HD.out.at_ 3 _ _ rfl) 0;have z31:w1.cell? ⟨w.heap.size+1+1+1,1,none⟩=some (.int .i64 0):=(blk_cell (HD.out.at_ 3 _ _ rfl) 1).trans rfl;have y31:w1.frozen? ⟨w.heap.size+1+1+1,1,none⟩=false:=blk_frozen (HD.out.at_ 3 _ _ rfl) 1;have z32:w1.cell? ⟨w.heap.size+1+1+1,2,none⟩=some (.int .i64 0):=(blk_cell (HD.out.at_ 3 _ _ rfl) 2).trans rfl;have y32:w1.frozen? ⟨w.heap.size+1+1+1,2,none⟩=false:=blk_frozen (HD.out.at_ 3 _ _ rfl) 2;have z33:w1.cell? ⟨w.heap.size+1+1+1,3,none⟩=some (.slice none 0 0):=(blk_cell (HD.out.at_ 3 _ _ rfl) 3).trans rfl;have y33:w1.frozen? ⟨w.heap.size+1+1+1,3,none⟩=false:=blk_frozen (HD.out.at_ 3 _ _ rfl) 3;have z34:w1.cell? ⟨w.heap.size+1+1+1,4,none⟩=some (.slice none 0 0):=(blk_cell (HD.out.at_ 3 _ _ rfl) 4).trans rfl;have y34:w1.frozen? ⟨w.heap.size+1+1+1,4,none⟩=false:=blk_frozen (HD.out.at_ 3 _ _ rfl) 4))
 have P:=put_res (HD.out.at_ 2 _ _ rfl) (HD.out.at_ 3 _ _ rfl) (by omega) (.int .i64 fl) (.slice A0 l0.length c0) (.int .i64 e1) (.int .i64 0) (.int .i64 0) (.slice none 0 0) (.slice none 0 0)
 refine bodyPost_ret (results_cc rfl _ _ (w.heap.size+1+1) (w.heap.size+1+1+1) 33 39 #[.int .i64 fl, .slice A0 l0.length c0] #[.int .i64 e1, .int .i64 0, .int .i64 0, .slice none 0 0, .slice none 0 0] (0,0) (0,0) _ _ rfl P.1 Tryd.underlying33 rfl (by kernel_rfl) rfl P.2.1 Tryd.underlying39 rfl (by kernel_rfl)) rfl ?_
 refine ⟨_,_,_,rfl, .inl ⟨rfl,rfl⟩,Kd.R_nil _ _ _ _ _,Kd.R_nil _ _ _ _ _,?_⟩
 iterate 7 refine below_set ?_ (by omega)
 exact HD.out.bel
set_option maxHeartbeats 8000000 in
set_option maxRecDepth 100000 in
theorem barquelaw22_do.one_full (k:Nat) (fl:Int) (A0:Option Addr) (c0:Nat) (l0:List ByteArray) (kind gen:Int) (A1:Option Addr) (c1:Nat) (l1:List S66) (w:World) (hr0:Kd.C Kd.string w A0 l0.length l0) (hc0:l0.length≤c0) (hr1:Kd.C k66 w A1 l1.length l1) (hc1:l1.length≤c1) (s1:ByteArray) (e1:Int) (h:barqueref10_Of.f k l1=some (s1,e1)) (h1:(kind == 1)=true) (he:(e1 == 0)=true) (he2:(e1 != 0)=false) (hq:decide (32≤wrap64 ((l0.length:Int) - fl))=true):
  Calls Tryd.prog 16 #[.agg #[.int .i64 fl, .slice A0 l0.length c0], .agg #[.int .i64 kind, .int .i64 gen, .slice A1 l1.length c1]] w (DoPost w A0 c0 l0 (fl,l0,7,0,0,[],[])):=by
 have hlm:=hr0.2.1
 have HR0:=Aside0.mk hr0
 have HC0:=Aside0.mk hc0
 have HR1:=Aside0.mk hr1
 have HC1:=Aside0.mk hc1
 clear hr0 hc0 hr1 hc1
 have HS:=Aside0.mk h
 clear h
 go_enter Tryd.func16,Tryd.ntmps16
 go_wp2_with (first|(go_at_call 30;(with_reducible refine (barqueref10_Of.calls k A1 c1 l1 s1 e1 _ (Kd.C_below HR1.out (Bx.five w #[.int .i64 fl, .slice A0 l0.length c0] #[.int .i64 kind, .int .i64 gen, .slice A1 l1.length c1] #[.int .i64 0, .slice none 0 0] #[.int .i64 0, .int .i64 0, .int .i64 0, .slice none 0 0, .slice none 0 0] #[.int .i64 0, .int .i64 (l0.length:Int), .int .i64 fl, .slice none 0 0, .slice none 0 0] 33 43 33 39 39).bel) HC1.out HS.out).mono ?_);rintro e w1 ⟨rfl,hb⟩;have HD:=Aside0.mk ((Bx.five w #[.int .i64 fl, .slice A0 l0.length c0] #[.int .i64 kind, .int .i64 gen, .slice A1 l1.length c1] #[.int .i64 0, .slice none 0 0] #[.int .i64 0, .int .i64 0, .int .i64 0, .slice none 0 0, .slice none 0 0] #[.int .i64 0, .int .i64 (l0.length:Int), .int .i64 fl, .slice none 0 0, .slice none 0 0] 33 43 33 39 39).below hb);clear hb;have z00:w1.cell? ⟨w.heap.size,0,none⟩=some (.int .i64 fl):=(blk_cell (HD.out.at_ 0 _ _ rfl) 0).trans rfl;have y00:w1.frozen? ⟨w.heap.size,0,none⟩=false:=blk_frozen (HD.out.at_ 0 _ _ rfl) 0;have z01:w1.cell? ⟨w.heap.size,1,none⟩=some (.slice A0 l0.length c0):=(blk_cell (HD.out.at_ 0 _ _ rfl) 1).trans rfl;have y01:w1.frozen? ⟨w.heap.size,1,none⟩=false:=blk_frozen (HD.out.at_ 0 _ _ rfl) 1;have z20:w1.cell? ⟨w.heap.size+1+1,0,none⟩=some (.int .i64 0):=(blk_cell (HD.out.at_ 2 _ _ rfl) 0).trans rfl;have y20:w1.frozen? ⟨w.heap.size+1+1,0,none⟩=false:=blk_frozen (HD.out.at_ 2 _ _ rfl) 0;have z21:w1.cell? ⟨w.heap.size+1+1,1,none⟩=some (.slice none 0 0):=(blk_cell (HD.out.at_ 2 _ _ rfl) 1).trans rfl;have y21:w1.frozen? ⟨w.heap.size+1+1,1,none⟩=false:=blk_frozen (HD.out.at_ 2 _ _ rfl) 1;have z30:w1.cell? ⟨w.heap.size+1+1+1,0,none⟩=some (.int .i64 0):=(blk_cell (HD.out.at_ 3 _ _ rfl) 0).trans rfl;have y30:w1.frozen? ⟨w.heap.size+1+1+1,0,none⟩=false:=blk_frozen (HD.out.at_ 3 _ _ rfl) 0;have z31:w1.cell? ⟨w.heap.size+1+1+1,1,none⟩=some (.int .i64 0):=(blk_cell (HD.out.at_ 3 _ _ rfl) 1).trans rfl;have y31:w1.frozen? ⟨w.heap.size+1+1+1,1,none⟩=false:=blk_frozen (HD.out.at_ 3 _ _ rfl) 1;have z32:w1.cell? ⟨w.heap.size+1+1+1,2,none⟩=some (.int .i64 0):=(blk_cell (HD.out.at_ 3 _ _ rfl) 2).trans rfl;have y32:w1.frozen? ⟨w.heap.size+1+1+1,2,none⟩=false:=blk_frozen (HD.out.at_ 3 _ _ rfl) 2;have z33:w1.cell? ⟨w.heap.size+1+1+1,3,none⟩=some (.slice none 0 0):=(blk_cell (HD.out.at_ 3 _ _ rfl) 3).trans rfl;have y33:w1.frozen? ⟨w.heap.size+1+1+1,3,none⟩=false:=blk_frozen (HD.out.at_ 3 _ _ rfl) 3;have z34:w1.cell? ⟨w.heap.size+1+1+1,4,none⟩=some (.slice none 0 0):=(blk_cell (HD.out.at_ 3 _ _ rfl) 4).trans rfl;have y34:w1.frozen? ⟨w.heap.size+1+1+1,4,none⟩=false:=blk_frozen (HD.out.at_ 3 _ _ rfl) 4))
 have P:=put_res (HD.out.at_ 2 _ _ rfl) (HD.out.at_ 3 _ _ rfl) (by omega) (.int .i64 fl) (.slice A0 l0.length c0) (.int .i64 7) (.int .i64 0) (.int .i64 0) (.slice none 0 0) (.slice none 0 0)
 refine bodyPost_ret (results_cc rfl _ _ (w.heap.size+1+1) (w.heap.size+1+1+1) 33 39 #[.int .i64 fl, .slice A0 l0.length c0] #[.int .i64 7, .int .i64 0, .int .i64 0, .slice none 0 0, .slice none 0 0] (0,0) (0,0) _ _ rfl P.1 Tryd.underlying33 rfl (by kernel_rfl) rfl P.2.1 Tryd.underlying39 rfl (by kernel_rfl)) rfl ?_
 refine ⟨_,_,_,rfl, .inl ⟨rfl,rfl⟩,Kd.R_nil _ _ _ _ _,Kd.R_nil _ _ _ _ _,?_⟩
 iterate 7 refine below_set ?_ (by omega)
 exact HD.out.bel
set_option maxHeartbeats 8000000 in
set_option maxRecDepth 100000 in
theorem barquelaw22_do.one_ok (k:Nat) (fl:Int) (A0:Option Addr) (c0:Nat) (l0:List ByteArray) (kind gen:Int) (A1:Option Addr) (c1:Nat) (l1:List S66) (w:World) (hr0:Kd.C Kd.string w A0 l0.length l0) (hc0:l0.length≤c0) (hr1:Kd.C k66 w A1 l1.length l1) (hc1:l1.length≤c1) (s1:ByteArray) (e1:Int) (h:barqueref10_Of.f k l1=some (s1,e1)) (h1:(kind == 1)=true) (he:(e1 == 0)=true) (he2:(e1 != 0)=false) (hq:decide (32≤wrap64 ((l0.length:Int) - fl))=false) (hl:l0.length < 8796093022207):
  Calls Tryd.prog 16 #[.agg #[.int .i64 fl, .slice A0 l0.length c0], .agg #[.int .i64 kind, .int .i64 gen, .slice A1 l1.length c1]] w (DoPost w A0 c0 l0 (fl,l0++[s1],0,(l0.length:Int),fl,[],[])):=by
 have hlm:=hr0.2.1
 have HR0:=Aside0.mk hr0
 have HC0:=Aside0.mk hc0
 have HR1:=Aside0.mk hr1
 have HC1:=Aside0.mk hc1
 clear hr0 hc0 hr1 hc1
 have HS:=Aside0.mk h
 have LM:=Aside0.mk hl
 clear h hl
 go_enter Tryd.func16,Tryd.ntmps16
 go_wp2_with (first|(go_at_call 30;(with_reducible refine (barqueref10_Of.calls k A1 c1 l1 s1 e1 _ (Kd.C_below HR1.out (Bx.five w #[.int .i64 fl, .slice A0 l0.length c0] #[.int .i64 kind, .int .i64 gen, .slice A1 l1.length c1] #[.int .i64 0, .slice none 0 0] #[.int .i64 0, .int .i64 0, .int .i64 0, .slice none 0 0, .slice none 0 0] #[.int .i64 0, .int .i64 (l0.length:Int), .int .i64 fl, .slice none 0 0, .slice none 0 0] 33 43 33 39 39).bel) HC1.out HS.out).mono ?_);rintro e w1 ⟨rfl,hb⟩;have HD:=Aside0.mk ((Bx.five w #[.int .i64 fl, .slice A0 l0.length c0] #[.int .i64 kind, .int .i64 gen, .slice A1 l1.length c1] #[.int .i64 0, .slice none 0 0] #[.int .i64 0, .int .i64 0, .int .i64 0, .slice none 0 0, .slice none 0 0] #[.int .i64 0, .int .i64 (l0.length:Int), .int .i64 fl, .slice none 0 0, .slice none 0 0] 33 43 33 39 39).below hb);clear hb;have z00:w1.cell? ⟨w.heap.size,0,none⟩=some (.int .i64 fl):=(blk_cell (HD.out.at_ 0 _ _ rfl) 0).trans rfl;have y00:w1.frozen? ⟨w.heap.size,0,none⟩=false:=blk_frozen (HD.out.at_ 0 _ _ rfl) 0;have z01:w1.cell? ⟨w.heap.size,1,none⟩=some (.slice A0 l0.length c0):=(blk_cell (HD.out.at_ 0 _ _ rfl) 1).trans rfl;have y01:w1.frozen? ⟨w.heap.size,1,none⟩=false:=blk_frozen (HD.out.at_ 0 _ _ rfl) 1;have z20:w1.cell? ⟨w.heap.size+1+1,0,none⟩=some (.int .i64 0):=(blk_cell (HD.out.at_ 2 _ _ rfl) 0).trans rfl;have y20:w1.frozen? ⟨w.heap.size+1+1,0,none⟩=false:=blk_frozen (HD.out.at_ 2 _ _ rfl) 0;have z21:w1.cell? ⟨w.heap.size+1+1,1,none⟩=some (.slice none 0 0):=(blk_cell (HD.out.at_ 2 _ _ rfl) 1).trans rfl;have y21:w1.frozen? ⟨w.heap.size+1+1,1,none⟩=false:=blk_frozen (HD.out.at_ 2 _ _ rfl) 1;have z30:w1.cell? ⟨w.heap.size+1+1+1,0,none⟩=some (.int .i64 0):=(blk_cell (HD.out.at_ 3 _ _ rfl) 0).trans rfl;have y30:w1.frozen? ⟨w.heap.size+1+1+1,0,none⟩=false:=blk_frozen (HD.out.at_ 3 _ _ rfl) 0;have z31:w1.cell? ⟨w.heap.size+1+1+1,1,none⟩=some (.int .i64 0):=(blk_cell (HD.out.at_ 3 _ _ rfl) 1).trans rfl;have y31:w1.frozen? ⟨w.heap.size+1+1+1,1,none⟩=false:=blk_frozen (HD.out.at_ 3 _ _ rfl) 1;have z32:w1.cell? ⟨w.heap.size+1+1+1,2,none⟩=some (.int .i64 0):=(blk_cell (HD.out.at_ 3 _ _ rfl) 2).trans rfl;have y32:w1.frozen? ⟨w.heap.size+1+1+1,2,none⟩=false:=blk_frozen (HD.out.at_ 3 _ _ rfl) 2;have z33:w1.cell? ⟨w.heap.size+1+1+1,3,none⟩=some (.slice none 0 0):=(blk_cell (HD.out.at_ 3 _ _ rfl) 3).trans rfl;have y33:w1.frozen? ⟨w.heap.size+1+1+1,3,none⟩=false:=blk_frozen (HD.out.at_ 3 _ _ rfl) 3;have z34:w1.cell? ⟨w.heap.size+1+1+1,4,none⟩=some (.slice none 0 0):=(blk_cell (HD.out.at_ 3 _ _ rfl) 4).trans rfl;have y34:w1.frozen? ⟨w.heap.size+1+1+1,4,none⟩=false:=blk_frozen (HD.out.at_ 3 _ _ rfl) 4))
 refine start_ (n:=13) (S:=fun w'=>w'.cell? ⟨w.heap.size,0,none⟩=some (.int .i64 fl)∧w'.cell? ⟨w.heap.size,1,none⟩=some (.slice A0 l0.length c0)∧w'.cell? ⟨w.heap.size+1+1+1+1,0,none⟩=some (.int .i64 0)∧w'.cell? ⟨w.heap.size+1+1+1+1,1,none⟩=some (.int .i64 (l0.length:Int))∧w'.cell? ⟨w.heap.size+1+1+1+1,2,none⟩=some (.int .i64 fl)∧w'.cell? ⟨w.heap.size+1+1+1+1,3,none⟩=some (.slice none 0 0)∧w'.cell? ⟨w.heap.size+1+1+1+1,4,none⟩=some (.slice none 0 0)) (ds:=[12]) (TF [0,13]) (by kernel_rfl) rfl rfl ⟨(blk_cell (HD.out.at_ 0 _ _ rfl) 0).trans rfl,(blk_cell (HD.out.at_ 0 _ _ rfl) 1).trans rfl,(blk_cell (HD.out.at_ 4 _ _ rfl) 0).trans rfl,(blk_cell (HD.out.at_ 4 _ _ rfl) 1).trans rfl,(blk_cell (HD.out.at_ 4 _ _ rfl) 2).trans rfl,(blk_cell (HD.out.at_ 4 _ _ rfl) 3).trans rfl,(blk_cell (HD.out.at_ 4 _ _ rfl) 4).trans rfl⟩ (fun hHeld=>?_)
 have n0_:=Aside0.mk (HD.out.drew)
 clear HD
 have HD:=n0_
 clear n0_
 clear z00 y00 z01 y01 z20 y20 z21 y21 z30 y30 z31 y31 z32 y32 z33 y33 z34 y34
 generalize w1.drew=W1 at HD hHeld ⊢
 apply pu 0 (some 41) [1,12] rfl rfl (by kernel_rfl) (fun _ _ _ h=>h) (by rfl)
 ·intro w';go_simp;with_reducible rfl
 ·simp only [Act.put,List.setIfInBounds_toArray,List.set_cons_zero,List.set_cons_succ,i64_w];rfl
 apply pu 3 (some 44) [1,2,1,9] rfl rfl (by kernel_rfl) (fun _ _ _ h=>h) (by rfl)
 ·intro w';go_simp;with_reducible rfl
 ·simp only [Act.put,List.setIfInBounds_toArray,List.set_cons_zero,List.set_cons_succ,i64_w];rfl
 apply pu 6 (some 47) [1,2,1,2,1,6] rfl rfl (by kernel_rfl) (fun _ _ _ h=>h) (by rfl)
 ·intro w';go_simp;with_reducible rfl
 ·simp only [Act.put,List.setIfInBounds_toArray,List.set_cons_zero,List.set_cons_succ,i64_w];rfl
 apply tk 1 (some 42) [2,1,1,2,1,6] rfl rfl (by kernel_rfl) (fun _ _ _ h=>h) hHeld (by rfl)
 ·rintro w' ⟨s0,s1,s2,s3,s4,s5,s6⟩;go_simp;with_reducible rfl
 ·simp only [Act.put,List.setIfInBounds_toArray,List.set_cons_zero,List.set_cons_succ,i64_w];rfl
 apply tk 4 (some 45) [2,1,2,1,1,6] rfl rfl (by kernel_rfl) (fun _ _ _ h=>h) hHeld (by rfl)
 ·rintro w' ⟨s0,s1,s2,s3,s4,s5,s6⟩;go_simp;with_reducible rfl
 ·simp only [Act.put,List.setIfInBounds_toArray,List.set_cons_zero,List.set_cons_succ,i64_w];rfl
 apply tk 10 (some 51) [2,1,2,1,1,3,1,2] rfl rfl (by kernel_rfl) (fun _ _ _ h=>h) hHeld (by rfl)
 ·rintro w' ⟨s0,s1,s2,s3,s4,s5,s6⟩;go_simp;with_reducible rfl
 ·simp only [Act.put,List.setIfInBounds_toArray,List.set_cons_zero,List.set_cons_succ,i64_w];rfl
 refine join_ (σ:=Value × Value × Value) 4 (TF [8,2,1,2]) (fun s_=>[(43,s_.1),(46,s_.2.1),(48,s_.2.2)]) (fun s_ w'=>Bx w [(#[.int .i64 fl, .slice A0 l0.length c0],33),(#[.int .i64 kind, .int .i64 gen, .slice A1 l1.length c1],43),(#[.int .i64 0, .slice none 0 0],33),(#[.int .i64 0, .int .i64 0, .int .i64 0, .slice none 0 0, .slice none 0 0],39),(#[.int .i64 0, .int .i64 (l0.length:Int), .int .i64 fl, .slice none 0 0, .slice none 0 0],39)] w'∧Kd.string.R 9 w' w.heap.size (fun _=>True) s_.2.1 l0∧Kd.string.R 9 w' w.heap.size (fun _=>True) s_.2.2 [s1]) ?_ ?_
 rotate_left
 ·intro hCont
  refine two_ (i:=2) (j:=7) (Ni:=some 43) (Nj:=some 48) (TF [5,1,1,3,1,2]) (TF [2,1,2,1,2,2,1,2]) rfl rfl rfl rfl (by kernel_rfl) (by decide) (by decide) (fun K hK=>?_) (fun K hK=>?_)
  ·skip
   refine Kd.R_lit_step Kd.string (w0:=w) w.heap.size 9 ?hg (N:=43) ?hd (xs:=([]:List ByteArray)) (inner:=[]) (ok:=fun _=>True) (okp:=fun _=>True) ?hr ?hp (fun _ hk=>hk) trivial HD.out.bel HD.out.bel.size (by simp) ?_;(case hd=>rfl);(case hg=>rfl);(case hr=>first|(go_simp;done)|(go_simp;rfl));(case hp=>exact Reps.none _ _)
   intro va W2 g0 hb hg_ hnew_
   have n0_:=Aside0.mk (HD.out.grown hg_ hb (fun _ _ _ _=>by simp))
   have n1_:=Aside0.mk (g0)
   (try clear HD)
   (try clear G1)
   have HD:=n0_
   have G1:=n1_
   clear n0_ n1_
   clear g0 hb hg_ hnew_
   refine hK.out _ _ ⟨(blk_cell (HD.out.at_ 0 _ _ rfl) 0).trans rfl,(blk_cell (HD.out.at_ 0 _ _ rfl) 1).trans rfl,(blk_cell (HD.out.at_ 4 _ _ rfl) 0).trans rfl,(blk_cell (HD.out.at_ 4 _ _ rfl) 1).trans rfl,(blk_cell (HD.out.at_ 4 _ _ rfl) 2).trans rfl,(blk_cell (HD.out.at_ 4 _ _ rfl) 3).trans rfl,(blk_cell (HD.out.at_ 4 _ _ rfl) 4).trans rfl⟩ (fun hHeld=>?_)
   clear hK K
   refine norm_ (a':=?_) ?_ ?_
   rotate_left
   ·show Act.put _ (some 43) _=_
    simp only [Act.put,List.setIfInBounds_toArray,List.set_cons_zero,List.set_cons_succ,i64_w]
    rfl
   refine two_ (i:=5) (j:=7) (Ni:=some 46) (Nj:=some 48) (TF [7,3,1,2]) (TF [5,1,2,2,1,2]) rfl rfl rfl rfl (by kernel_rfl) (by decide) (by decide) (fun K hK=>?_) (fun K hK=>?_)
   ·skip
    refine Kd.R_append_rows_step Kd.string (w0:=w) w.heap.size (by rfl) (.tmp 43) (.tmp 45) 31 9 (.string ⟨#[]⟩) 16 rfl Tryd.underlying31 info9 rfl (by decide) (by omega) va [] l0 _ _ _ (fun _=>True) (fun _=>False) rfl rfl G1.out ?aR (fun _ _ h=>h) (fun _ h=>h.elim) (fun _ _=>trivial) HD.out.bel HD.out.bel.size ?aL ?_
    (case aR=>exact Kd.C_below HR0.out HD.out.bel)
    (case aL=>have:=LM.out;simp;omega)
    intro vb W3 ho hb hg hat
    have n0_:=Aside0.mk (HD.out.grown hg hb (HD.out.ne G1.out (Bx.types5 (by decide) (by decide) (by decide) (by decide) (by decide))))
    have n1_:=Aside0.mk (ho)
    (try clear HD)
    (try clear G1)
    have HD:=n0_
    have G1:=n1_
    clear n0_ n1_
    clear ho hb hg hat
    refine hK.out _ _ ⟨(blk_cell (HD.out.at_ 0 _ _ rfl) 0).trans rfl,(blk_cell (HD.out.at_ 0 _ _ rfl) 1).trans rfl,(blk_cell (HD.out.at_ 4 _ _ rfl) 0).trans rfl,(blk_cell (HD.out.at_ 4 _ _ rfl) 1).trans rfl,(blk_cell (HD.out.at_ 4 _ _ rfl) 2).trans rfl,(blk_cell (HD.out.at_ 4 _ _ rfl) 3).trans rfl,(blk_cell (HD.out.at_ 4 _ _ rfl) 4).trans rfl⟩ (fun hHeld=>?_)
    clear hK K
    refine norm_ (a':=?_) ?_ ?_
    rotate_left
    ·show Act.put _ (some 46) _=_
     simp only [Act.put,List.setIfInBounds_toArray,List.set_cons_zero,List.set_cons_succ,i64_w]
     rfl
    refine one_ (i:=7) (N:=some 48) (TF [8,2,1,2]) rfl rfl (by kernel_rfl) (by decide) (fun K hK=>?_)
    refine Kd.R_lit_step Kd.string (w0:=w) w.heap.size 9 ?hg (N:=48) ?hd (xs:=([s1]:List ByteArray)) (inner:=[.string s1]) (ok:=fun _=>True) (okp:=fun _=>True) ?hr ?hp (fun _ hk=>hk) trivial HD.out.bel HD.out.bel.size (by simp) ?_;(case hd=>rfl);(case hg=>rfl);(case hr=>first|(go_simp;done)|(go_simp;rfl));(case hp=>exact (Reps.one (show Kd.M Kd.string _ _ _ s1 [.string s1] from rfl) (Reps.none _ _)))
    intro v2 W4 g0 hb hg_ hnew_
    have n0_:=Aside0.mk (HD.out.grown hg_ hb (fun _ _ _ _=>by simp))
    have n1_:=Aside0.mk (Kd.R_grown G1.out hg_ (fun _ _=>by simp))
    have n2_:=Aside0.mk (g0)
    (try clear HD)
    (try clear G1)
    (try clear G2)
    have HD:=n0_
    have G1:=n1_
    have G2:=n2_
    clear n0_ n1_ n2_
    clear g0 hb hg_ hnew_
    refine hK.out _ _ ⟨(blk_cell (HD.out.at_ 0 _ _ rfl) 0).trans rfl,(blk_cell (HD.out.at_ 0 _ _ rfl) 1).trans rfl,(blk_cell (HD.out.at_ 4 _ _ rfl) 0).trans rfl,(blk_cell (HD.out.at_ 4 _ _ rfl) 1).trans rfl,(blk_cell (HD.out.at_ 4 _ _ rfl) 2).trans rfl,(blk_cell (HD.out.at_ 4 _ _ rfl) 3).trans rfl,(blk_cell (HD.out.at_ 4 _ _ rfl) 4).trans rfl⟩ (fun hHeld=>?_)
    clear hK K
    refine norm_ (a':=?_) ?_ ?_
    rotate_left
    ·show Act.put _ (some 48) _=_
     simp only [Act.put,List.setIfInBounds_toArray,List.set_cons_zero,List.set_cons_succ,i64_w]
     rfl
    exact norm_ (by simp only [putAll,Act.put,List.setIfInBounds_toArray,List.set_cons_zero,List.set_cons_succ]) (hCont (va,vb,v2) _ ⟨HD.out,(show Kd.string.R 9 _ w.heap.size (fun _=>True) vb l0 from G1.out),G2.out⟩)
   ·skip
    refine Kd.R_lit_step Kd.string (w0:=w) w.heap.size 9 ?hg (N:=48) ?hd (xs:=([s1]:List ByteArray)) (inner:=[.string s1]) (ok:=fun _=>True) (okp:=fun _=>True) ?hr ?hp (fun _ hk=>hk) trivial HD.out.bel HD.out.bel.size (by simp) ?_;(case hd=>rfl);(case hg=>rfl);(case hr=>first|(go_simp;done)|(go_simp;rfl));(case hp=>exact (Reps.one (show Kd.M Kd.string _ _ _ s1 [.string s1] from rfl) (Reps.none _ _)))
    intro v2 W3 g0 hb hg_ hnew_
    have n0_:=Aside0.mk (HD.out.grown hg_ hb (fun _ _ _ _=>by simp))
    have n1_:=Aside0.mk (str_apart g0 (new_apart G1.out hnew_))
    have n2_:=Aside0.mk (Kd.R_grown G1.out hg_ (fun _ _=>by simp))
    (try clear HD)
    (try clear G2)
    (try clear G1)
    have HD:=n0_
    have G2:=n1_
    have G1:=n2_
    clear n0_ n1_ n2_
    clear g0 hb hg_ hnew_
    refine hK.out _ _ ⟨(blk_cell (HD.out.at_ 0 _ _ rfl) 0).trans rfl,(blk_cell (HD.out.at_ 0 _ _ rfl) 1).trans rfl,(blk_cell (HD.out.at_ 4 _ _ rfl) 0).trans rfl,(blk_cell (HD.out.at_ 4 _ _ rfl) 1).trans rfl,(blk_cell (HD.out.at_ 4 _ _ rfl) 2).trans rfl,(blk_cell (HD.out.at_ 4 _ _ rfl) 3).trans rfl,(blk_cell (HD.out.at_ 4 _ _ rfl) 4).trans rfl⟩ (fun hHeld=>?_)
    clear hK K
    refine norm_ (a':=?_) ?_ ?_
    rotate_left
    ·show Act.put _ (some 48) _=_
     simp only [Act.put,List.setIfInBounds_toArray,List.set_cons_zero,List.set_cons_succ,i64_w]
     rfl
    refine one_ (i:=5) (N:=some 46) (TF [8,2,1,2]) rfl rfl (by kernel_rfl) (by decide) (fun K hK=>?_)
    refine Kd.R_append_rows_step Kd.string (w0:=w) w.heap.size (by rfl) (.tmp 43) (.tmp 45) 31 9 (.string ⟨#[]⟩) 16 rfl Tryd.underlying31 info9 rfl (by decide) (by omega) va [] l0 _ _ _ (fun _=>True) (fun _=>False) rfl rfl G1.out ?aR (fun _ _ h=>h) (fun _ h=>h.elim) (fun _ _=>trivial) HD.out.bel HD.out.bel.size ?aL ?_
    (case aR=>exact Kd.C_below HR0.out HD.out.bel)
    (case aL=>have:=LM.out;simp;omega)
    intro vb W4 ho hb hg hat
    have n0_:=Aside0.mk (HD.out.grown hg hb (HD.out.ne G1.out (Bx.types5 (by decide) (by decide) (by decide) (by decide) (by decide))))
    have n1_:=Aside0.mk (ho)
    have n2_:=Aside0.mk (Kd.R_mono (Kd.R_after G2.out hg hat) (fun _ h=>h.1))
    (try clear HD)
    (try clear G1)
    (try clear G2)
    have HD:=n0_
    have G1:=n1_
    have G2:=n2_
    clear n0_ n1_ n2_
    clear ho hb hg hat
    refine hK.out _ _ ⟨(blk_cell (HD.out.at_ 0 _ _ rfl) 0).trans rfl,(blk_cell (HD.out.at_ 0 _ _ rfl) 1).trans rfl,(blk_cell (HD.out.at_ 4 _ _ rfl) 0).trans rfl,(blk_cell (HD.out.at_ 4 _ _ rfl) 1).trans rfl,(blk_cell (HD.out.at_ 4 _ _ rfl) 2).trans rfl,(blk_cell (HD.out.at_ 4 _ _ rfl) 3).trans rfl,(blk_cell (HD.out.at_ 4 _ _ rfl) 4).trans rfl⟩ (fun hHeld=>?_)
    clear hK K
    refine norm_ (a':=?_) ?_ ?_
    rotate_left
    ·show Act.put _ (some 46) _=_
     simp only [Act.put,List.setIfInBounds_toArray,List.set_cons_zero,List.set_cons_succ,i64_w]
     rfl
    exact norm_ (by simp only [putAll,Act.put,List.setIfInBounds_toArray,List.set_cons_zero,List.set_cons_succ]) (hCont (va,vb,v2) _ ⟨HD.out,(show Kd.string.R 9 _ w.heap.size (fun _=>True) vb l0 from G1.out),G2.out⟩)
  ·skip
   refine Kd.R_lit_step Kd.string (w0:=w) w.heap.size 9 ?hg (N:=48) ?hd (xs:=([s1]:List ByteArray)) (inner:=[.string s1]) (ok:=fun _=>True) (okp:=fun _=>True) ?hr ?hp (fun _ hk=>hk) trivial HD.out.bel HD.out.bel.size (by simp) ?_;(case hd=>rfl);(case hg=>rfl);(case hr=>first|(go_simp;done)|(go_simp;rfl));(case hp=>exact (Reps.one (show Kd.M Kd.string _ _ _ s1 [.string s1] from rfl) (Reps.none _ _)))
   intro v2 W2 g0 hb hg_ hnew_
   have n0_:=Aside0.mk (HD.out.grown hg_ hb (fun _ _ _ _=>by simp))
   have n1_:=Aside0.mk (g0)
   (try clear HD)
   (try clear G2)
   have HD:=n0_
   have G2:=n1_
   clear n0_ n1_
   clear g0 hb hg_ hnew_
   refine hK.out _ _ ⟨(blk_cell (HD.out.at_ 0 _ _ rfl) 0).trans rfl,(blk_cell (HD.out.at_ 0 _ _ rfl) 1).trans rfl,(blk_cell (HD.out.at_ 4 _ _ rfl) 0).trans rfl,(blk_cell (HD.out.at_ 4 _ _ rfl) 1).trans rfl,(blk_cell (HD.out.at_ 4 _ _ rfl) 2).trans rfl,(blk_cell (HD.out.at_ 4 _ _ rfl) 3).trans rfl,(blk_cell (HD.out.at_ 4 _ _ rfl) 4).trans rfl⟩ (fun hHeld=>?_)
   clear hK K
   refine norm_ (a':=?_) ?_ ?_
   rotate_left
   ·show Act.put _ (some 48) _=_
    simp only [Act.put,List.setIfInBounds_toArray,List.set_cons_zero,List.set_cons_succ,i64_w]
    rfl
   refine one_ (i:=2) (N:=some 43) (TF [5,1,2,2,1,2]) rfl rfl (by kernel_rfl) (by decide) (fun K hK=>?_)
   refine Kd.R_lit_step Kd.string (w0:=w) w.heap.size 9 ?hg (N:=43) ?hd (xs:=([]:List ByteArray)) (inner:=[]) (ok:=fun _=>True) (okp:=fun _=>True) ?hr ?hp (fun _ hk=>hk) trivial HD.out.bel HD.out.bel.size (by simp) ?_;(case hd=>rfl);(case hg=>rfl);(case hr=>first|(go_simp;done)|(go_simp;rfl));(case hp=>exact Reps.none _ _)
   intro va W3 g0 hb hg_ hnew_
   have n0_:=Aside0.mk (HD.out.grown hg_ hb (fun _ _ _ _=>by simp))
   have n1_:=Aside0.mk (g0)
   have n2_:=Aside0.mk (str_apart (Kd.R_grown G2.out hg_ (fun _ _=>by simp)) (apart_new G2.out hnew_))
   (try clear HD)
   (try clear G1)
   (try clear G2)
   have HD:=n0_
   have G1:=n1_
   have G2:=n2_
   clear n0_ n1_ n2_
   clear g0 hb hg_ hnew_
   refine hK.out _ _ ⟨(blk_cell (HD.out.at_ 0 _ _ rfl) 0).trans rfl,(blk_cell (HD.out.at_ 0 _ _ rfl) 1).trans rfl,(blk_cell (HD.out.at_ 4 _ _ rfl) 0).trans rfl,(blk_cell (HD.out.at_ 4 _ _ rfl) 1).trans rfl,(blk_cell (HD.out.at_ 4 _ _ rfl) 2).trans rfl,(blk_cell (HD.out.at_ 4 _ _ rfl) 3).trans rfl,(blk_cell (HD.out.at_ 4 _ _ rfl) 4).trans rfl⟩ (fun hHeld=>?_)
   clear hK K
   refine norm_ (a':=?_) ?_ ?_
   rotate_left
   ·show Act.put _ (some 43) _=_
    simp only [Act.put,List.setIfInBounds_toArray,List.set_cons_zero,List.set_cons_succ,i64_w]
    rfl
   refine one_ (i:=5) (N:=some 46) (TF [8,2,1,2]) rfl rfl (by kernel_rfl) (by decide) (fun K hK=>?_)
   refine Kd.R_append_rows_step Kd.string (w0:=w) w.heap.size (by rfl) (.tmp 43) (.tmp 45) 31 9 (.string ⟨#[]⟩) 16 rfl Tryd.underlying31 info9 rfl (by decide) (by omega) va [] l0 _ _ _ (fun _=>True) (fun _=>False) rfl rfl G1.out ?aR (fun _ _ h=>h) (fun _ h=>h.elim) (fun _ _=>trivial) HD.out.bel HD.out.bel.size ?aL ?_
   (case aR=>exact Kd.C_below HR0.out HD.out.bel)
   (case aL=>have:=LM.out;simp;omega)
   intro vb W4 ho hb hg hat
   have n0_:=Aside0.mk (HD.out.grown hg hb (HD.out.ne G1.out (Bx.types5 (by decide) (by decide) (by decide) (by decide) (by decide))))
   have n1_:=Aside0.mk (ho)
   have n2_:=Aside0.mk (Kd.R_mono (Kd.R_after G2.out hg hat) (fun _ h=>h.1))
   (try clear HD)
   (try clear G1)
   (try clear G2)
   have HD:=n0_
   have G1:=n1_
   have G2:=n2_
   clear n0_ n1_ n2_
   clear ho hb hg hat
   refine hK.out _ _ ⟨(blk_cell (HD.out.at_ 0 _ _ rfl) 0).trans rfl,(blk_cell (HD.out.at_ 0 _ _ rfl) 1).trans rfl,(blk_cell (HD.out.at_ 4 _ _ rfl) 0).trans rfl,(blk_cell (HD.out.at_ 4 _ _ rfl) 1).trans rfl,(blk_cell (HD.out.at_ 4 _ _ rfl) 2).trans rfl,(blk_cell (HD.out.at_ 4 _ _ rfl) 3).trans rfl,(blk_cell (HD.out.at_ 4 _ _ rfl) 4).trans rfl⟩ (fun hHeld=>?_)
   clear hK K
   refine norm_ (a':=?_) ?_ ?_
   rotate_left
   ·show Act.put _ (some 46) _=_
    simp only [Act.put,List.setIfInBounds_toArray,List.set_cons_zero,List.set_cons_succ,i64_w]
    rfl
   exact norm_ (by simp only [putAll,Act.put,List.setIfInBounds_toArray,List.set_cons_zero,List.set_cons_succ]) (hCont (va,vb,v2) _ ⟨HD.out,(show Kd.string.R 9 _ w.heap.size (fun _=>True) vb l0 from G1.out),G2.out⟩)
 rintro ⟨va,vb,v2⟩ W5 ⟨d5,g1,g2⟩
 have n0_:=Aside0.mk (d5)
 have n1_:=Aside0.mk (g1)
 have n2_:=Aside0.mk (g2)
 (try clear HD)
 (try clear G1)
 (try clear G2)
 have HD:=n0_
 have G1:=n1_
 have G2:=n2_
 clear n0_ n1_ n2_
 clear d5 g1 g2
 have hHeld:W5.cell? ⟨w.heap.size,0,none⟩=some (.int .i64 fl)∧W5.cell? ⟨w.heap.size,1,none⟩=some (.slice A0 l0.length c0)∧W5.cell? ⟨w.heap.size+1+1+1+1,0,none⟩=some (.int .i64 0)∧W5.cell? ⟨w.heap.size+1+1+1+1,1,none⟩=some (.int .i64 (l0.length:Int))∧W5.cell? ⟨w.heap.size+1+1+1+1,2,none⟩=some (.int .i64 fl)∧W5.cell? ⟨w.heap.size+1+1+1+1,3,none⟩=some (.slice none 0 0)∧W5.cell? ⟨w.heap.size+1+1+1+1,4,none⟩=some (.slice none 0 0):=⟨(blk_cell (HD.out.at_ 0 _ _ rfl) 0).trans rfl,(blk_cell (HD.out.at_ 0 _ _ rfl) 1).trans rfl,(blk_cell (HD.out.at_ 4 _ _ rfl) 0).trans rfl,(blk_cell (HD.out.at_ 4 _ _ rfl) 1).trans rfl,(blk_cell (HD.out.at_ 4 _ _ rfl) 2).trans rfl,(blk_cell (HD.out.at_ 4 _ _ rfl) 3).trans rfl,(blk_cell (HD.out.at_ 4 _ _ rfl) 4).trans rfl⟩
 obtain ⟨Ax,cx,ex⟩:=Kd.R_slice G2.out
 subst ex
 refine norm_ (a':=?_) ?_ ?_
 rotate_left
 ·simp only [putAll,Act.put,List.setIfInBounds_toArray,List.set_cons_zero,List.set_cons_succ]
  rfl
 refine one_ (i:=8) (N:=some 49) (TF [9,1,1,2]) rfl rfl (by kernel_rfl) (by decide) (fun K hK=>?_)
 refine Kd.R_append_rows_step Kd.string (w0:=w) w.heap.size (by rfl) (.tmp 46) (.tmp 48) 31 9 (.string ⟨#[]⟩) 16 rfl Tryd.underlying31 info9 rfl (by decide) (by omega) vb l0 [s1] _ _ _ (fun _=>True) (fun _=>False) rfl rfl G1.out ?aR (fun _ _ h=>h) (fun _ h=>h.elim) (fun _ _=>trivial) HD.out.bel HD.out.bel.size ?aL ?_
 (case aR=>exact (Kd.R_reads' G2.out).2.2)
 (case aL=>have:=LM.out;simp;omega)
 intro v3 W6 ho hb hg hat
 obtain ⟨y,hy⟩: ∃y:List ByteArray,y=l0++[s1]:=⟨_,rfl⟩
 rw [← hy] at ho
 have HY:=Aside0.mk hy
 clear hy
 have n0_:=Aside0.mk (HD.out.grown hg hb (HD.out.ne G1.out (Bx.types5 (by decide) (by decide) (by decide) (by decide) (by decide))))
 have n1_:=Aside0.mk (ho)
 (try clear HD)
 (try clear G3)
 have HD:=n0_
 have G3:=n1_
 clear n0_ n1_
 clear ho hb hg hat G1 G2
 obtain ⟨A3,c3,e3⟩:=Kd.R_slice G3.out
 subst e3
 have z20:W6.cell? ⟨w.heap.size+1+1,0,none⟩=some (.int .i64 0):=(blk_cell (HD.out.at_ 2 _ _ rfl) 0).trans rfl
 have y20:W6.frozen? ⟨w.heap.size+1+1,0,none⟩=false:=blk_frozen (HD.out.at_ 2 _ _ rfl) 0
 have z21:W6.cell? ⟨w.heap.size+1+1,1,none⟩=some (.slice none 0 0):=(blk_cell (HD.out.at_ 2 _ _ rfl) 1).trans rfl
 have y21:W6.frozen? ⟨w.heap.size+1+1,1,none⟩=false:=blk_frozen (HD.out.at_ 2 _ _ rfl) 1
 have z30:W6.cell? ⟨w.heap.size+1+1+1,0,none⟩=some (.int .i64 0):=(blk_cell (HD.out.at_ 3 _ _ rfl) 0).trans rfl
 have y30:W6.frozen? ⟨w.heap.size+1+1+1,0,none⟩=false:=blk_frozen (HD.out.at_ 3 _ _ rfl) 0
 have z31:W6.cell? ⟨w.heap.size+1+1+1,1,none⟩=some (.int .i64 0):=(blk_cell (HD.out.at_ 3 _ _ rfl) 1).trans rfl
 have y31:W6.frozen? ⟨w.heap.size+1+1+1,1,none⟩=false:=blk_frozen (HD.out.at_ 3 _ _ rfl) 1
 have z32:W6.cell? ⟨w.heap.size+1+1+1,2,none⟩=some (.int .i64 0):=(blk_cell (HD.out.at_ 3 _ _ rfl) 2).trans rfl
 have y32:W6.frozen? ⟨w.heap.size+1+1+1,2,none⟩=false:=blk_frozen (HD.out.at_ 3 _ _ rfl) 2
 have z33:W6.cell? ⟨w.heap.size+1+1+1,3,none⟩=some (.slice none 0 0):=(blk_cell (HD.out.at_ 3 _ _ rfl) 3).trans rfl
 have y33:W6.frozen? ⟨w.heap.size+1+1+1,3,none⟩=false:=blk_frozen (HD.out.at_ 3 _ _ rfl) 3
 have z34:W6.cell? ⟨w.heap.size+1+1+1,4,none⟩=some (.slice none 0 0):=(blk_cell (HD.out.at_ 3 _ _ rfl) 4).trans rfl
 have y34:W6.frozen? ⟨w.heap.size+1+1+1,4,none⟩=false:=blk_frozen (HD.out.at_ 3 _ _ rfl) 4
 refine hK.out _ _ ⟨(blk_cell (HD.out.at_ 0 _ _ rfl) 0).trans rfl,(blk_cell (HD.out.at_ 0 _ _ rfl) 1).trans rfl,(blk_cell (HD.out.at_ 4 _ _ rfl) 0).trans rfl,(blk_cell (HD.out.at_ 4 _ _ rfl) 1).trans rfl,(blk_cell (HD.out.at_ 4 _ _ rfl) 2).trans rfl,(blk_cell (HD.out.at_ 4 _ _ rfl) 3).trans rfl,(blk_cell (HD.out.at_ 4 _ _ rfl) 4).trans rfl⟩ (fun hHeld=>?_)
 clear hK K
 refine norm_ (a':=?_) ?_ ?_
 rotate_left
 ·show Act.put _ (some 49) _=_
  simp only [Act.put,List.setIfInBounds_toArray,List.set_cons_zero,List.set_cons_succ,i64_w]
  rfl
 apply pu 9 (some 50) [11,2] rfl rfl (by kernel_rfl) (fun _ _ _ h=>h) (by rfl)
 ·intro w';go_simp;with_reducible rfl
 ·simp only [Act.put,List.setIfInBounds_toArray,List.set_cons_zero,List.set_cons_succ,i64_w];rfl
 refine one_ (i:=11) (N:=none) (TF [12,1]) rfl rfl (by kernel_rfl) (by decide) (fun K hK=>?_)
 refine skip_ (w1:=?_) (by rfl) rfl ?_ ?_
 rotate_left
 ·go_simp
  rfl
 refine hK.out _ _ ⟨(cell_far (p:=⟨w.heap.size+1+1,_,none⟩) (show w.heap.size≠w.heap.size+1+1 by omega) _).trans ((cell_far (p:=⟨w.heap.size+1+1,_,none⟩) (show w.heap.size≠w.heap.size+1+1 by omega) _).trans (hHeld.1)),(cell_far (p:=⟨w.heap.size+1+1,_,none⟩) (show w.heap.size≠w.heap.size+1+1 by omega) _).trans ((cell_far (p:=⟨w.heap.size+1+1,_,none⟩) (show w.heap.size≠w.heap.size+1+1 by omega) _).trans (hHeld.2.1)),(cell_far (p:=⟨w.heap.size+1+1,_,none⟩) (show w.heap.size+1+1+1+1≠w.heap.size+1+1 by omega) _).trans ((cell_far (p:=⟨w.heap.size+1+1,_,none⟩) (show w.heap.size+1+1+1+1≠w.heap.size+1+1 by omega) _).trans (hHeld.2.2.1)),(cell_far (p:=⟨w.heap.size+1+1,_,none⟩) (show w.heap.size+1+1+1+1≠w.heap.size+1+1 by omega) _).trans ((cell_far (p:=⟨w.heap.size+1+1,_,none⟩) (show w.heap.size+1+1+1+1≠w.heap.size+1+1 by omega) _).trans (hHeld.2.2.2.1)),(cell_far (p:=⟨w.heap.size+1+1,_,none⟩) (show w.heap.size+1+1+1+1≠w.heap.size+1+1 by omega) _).trans ((cell_far (p:=⟨w.heap.size+1+1,_,none⟩) (show w.heap.size+1+1+1+1≠w.heap.size+1+1 by omega) _).trans (hHeld.2.2.2.2.1)),(cell_far (p:=⟨w.heap.size+1+1,_,none⟩) (show w.heap.size+1+1+1+1≠w.heap.size+1+1 by omega) _).trans ((cell_far (p:=⟨w.heap.size+1+1,_,none⟩) (show w.heap.size+1+1+1+1≠w.heap.size+1+1 by omega) _).trans (hHeld.2.2.2.2.2.1)),(cell_far (p:=⟨w.heap.size+1+1,_,none⟩) (show w.heap.size+1+1+1+1≠w.heap.size+1+1 by omega) _).trans ((cell_far (p:=⟨w.heap.size+1+1,_,none⟩) (show w.heap.size+1+1+1+1≠w.heap.size+1+1 by omega) _).trans (hHeld.2.2.2.2.2.2))⟩ (fun hHeld=>?_)
 clear hK K
 refine last_ (i:=12) (N:=none) (TF [13]) rfl rfl (by kernel_rfl) (by decide) (fun K hK=>?_)
 refine skip_ (w1:=?_) (by rfl) rfl ?_ ?_
 rotate_left
 ·go_simp
  rfl
 refine hK.out _ _ ?_
 clear hK K
 refine done_ (by kernel_rfl) ?_
 go_wp2
 have P:=put_res (HD.out.at_ 2 _ _ rfl) (HD.out.at_ 3 _ _ rfl) (by omega) (.int .i64 fl) (.slice A3 y.length c3) (.int .i64 0) (.int .i64 (l0.length:Int)) (.int .i64 fl) (.slice none 0 0) (.slice none 0 0)
 refine bodyPost_ret (results_cc rfl _ _ (w.heap.size+1+1) (w.heap.size+1+1+1) 33 39 #[.int .i64 fl, .slice A3 y.length c3] #[.int .i64 0, .int .i64 (l0.length:Int), .int .i64 fl, .slice none 0 0, .slice none 0 0] (0,0) (0,0) _ _ rfl P.1 Tryd.underlying33 rfl (by kernel_rfl) rfl P.2.1 Tryd.underlying39 rfl (by kernel_rfl)) rfl ?_
 refine ⟨_,_,_,rfl, .inr (by rw [← HY.out];exact R_only G3.out (HD.out.at_ 2 _ _ rfl) (HD.out.at_ 3 _ _ rfl) (by decide) (by decide) P.2.2),Kd.R_nil _ _ _ _ _,Kd.R_nil _ _ _ _ _,?_⟩
 iterate 7 refine below_set ?_ (by omega)
 exact HD.out.bel
def barquelaw22_do.f (k:Nat) (fl:Int) (tr:List ByteArray) (kind gen:Int) (files:List S66):Option (Int × List ByteArray × Int × Int × Int × List S66 × List ByteArray):=
 if kind=1 then ((barqueref10_Of.f k files).bind fun s=>if s.2=0 then (if 32≤wrap64 ((tr.length:Int) - fl) then some (fl,tr,7,0,0,[],[]) else if tr.length < 8796093022207 then some (fl,tr++[s.1],0,(tr.length:Int),fl,[],[]) else none) else some (fl,tr,s.2,0,0,[],[]))
 else if kind=2 then ((barquelaw22_has.f k fl tr (wrap64 ((tr.length:Int) - 1))).bind fun a=>some (fl,tr,a.1,a.2.1,a.2.2.1,a.2.2.2.1,a.2.2.2.2))
 else if kind=3 then (if gen < 0 then some (fl,tr,2,0,0,[],[]) else ((barquelaw22_has.f k fl tr gen).bind fun a=>some (fl,tr,a.1,a.2.1,a.2.2.1,a.2.2.2.1,a.2.2.2.2)))
 else if kind=4 then some (fl,tr,0,(tr.length:Int),fl,[],[])
 else if kind=6 then some (fl,tr,0,(tr.length:Int),fl,[],[])
 else if kind=5 then (if gen < 0 then some (fl,tr,2,0,0,[],[]) else if gen≤fl then some (fl,tr,0,(tr.length:Int),fl,[],[]) else if (tr.length:Int)≤gen then some (fl,tr,2,0,0,[],[]) else some (gen,tr,0,(tr.length:Int),gen,[],[]))
 else some (fl,tr,1,0,0,[],[])
theorem barquelaw22_do.calls (k:Nat) (fl:Int) (A0:Option Addr) (c0:Nat) (l0:List ByteArray) (kind gen:Int) (A1:Option Addr) (c1:Nat) (l1:List S66) (w:World) (hr0:Kd.C Kd.string w A0 l0.length l0) (hc0:l0.length≤c0) (hr1:Kd.C k66 w A1 l1.length l1) (hc1:l1.length≤c1) (r:Int × List ByteArray × Int × Int × Int × List S66 × List ByteArray) (h:barquelaw22_do.f k fl l0 kind gen l1=some r):
  Calls Tryd.prog 16 #[.agg #[.int .i64 fl, .slice A0 l0.length c0], .agg #[.int .i64 kind, .int .i64 gen, .slice A1 l1.length c1]] w (DoPost w A0 c0 l0 r):=by
 unfold barquelaw22_do.f at h
 by_cases h1:kind=1
 ·rw [if_pos h1] at h
  obtain ⟨⟨s1,e1⟩,hs,h⟩:=Option.bind_eq_some_iff.mp h
  replace h:(if e1=0 then (if 32≤wrap64 ((l0.length:Int) - fl) then some (fl,l0,7,0,0,[],[]) else if l0.length < 8796093022207 then some (fl,l0++[s1],0,(l0.length:Int),fl,[],[]) else none) else some (fl,l0,e1,0,0,[],[]))=some r:=h
  by_cases he:e1=0
  ·rw [if_pos he] at h
   by_cases hq:32≤wrap64 ((l0.length:Int) - fl)
   ·rw [if_pos hq] at h
    obtain rfl:=Option.some.inj h
    exact barquelaw22_do.one_full k fl A0 c0 l0 kind gen A1 c1 l1 w hr0 hc0 hr1 hc1 s1 e1 hs (bt_ _ _ h1) (bt_ _ _ he) (nf_ _ _ he) (decide_eq_true hq)
   ·rw [if_neg hq] at h
    by_cases hl:l0.length < 8796093022207
    ·rw [if_pos hl] at h
     obtain rfl:=Option.some.inj h
     exact barquelaw22_do.one_ok k fl A0 c0 l0 kind gen A1 c1 l1 w hr0 hc0 hr1 hc1 s1 e1 hs (bt_ _ _ h1) (bt_ _ _ he) (nf_ _ _ he) (decide_eq_false hq) hl
    ·rw [if_neg hl] at h
     exact absurd h (by simp)
  ·rw [if_neg he] at h
   obtain rfl:=Option.some.inj h
   exact barquelaw22_do.one_err k fl A0 c0 l0 kind gen A1 c1 l1 w hr0 hc0 hr1 hc1 s1 e1 hs (bt_ _ _ h1) (bf_ _ _ he) (nt_ _ _ he)
 rw [if_neg h1] at h
 by_cases h2:kind=2
 ·rw [if_pos h2] at h
  obtain ⟨⟨a1,a2,a3,a4,a5⟩,hs,h⟩:=Option.bind_eq_some_iff.mp h
  obtain rfl:=Option.some.inj h
  exact barquelaw22_do.two k fl A0 c0 l0 kind gen A1 c1 l1 w hr0 hc0 hr1 hc1 (bf_ _ _ h1) (bt_ _ _ h2) a1 a2 a3 a4 a5 hs
 rw [if_neg h2] at h
 by_cases h3:kind=3
 ·rw [if_pos h3] at h
  by_cases hg:gen < 0
  ·rw [if_pos hg] at h
   obtain rfl:=Option.some.inj h
   exact barquelaw22_do.three_neg k fl A0 c0 l0 kind gen A1 c1 l1 w hr0 hc0 hr1 hc1 (bf_ _ _ h1) (bf_ _ _ h2) (bt_ _ _ h3) (decide_eq_true hg)
  ·rw [if_neg hg] at h
   obtain ⟨⟨a1,a2,a3,a4,a5⟩,hs,h⟩:=Option.bind_eq_some_iff.mp h
   obtain rfl:=Option.some.inj h
   exact barquelaw22_do.three k fl A0 c0 l0 kind gen A1 c1 l1 w hr0 hc0 hr1 hc1 (bf_ _ _ h1) (bf_ _ _ h2) (bt_ _ _ h3) (decide_eq_false hg) a1 a2 a3 a4 a5 hs
 rw [if_neg h3] at h
 by_cases h4:kind=4
 ·rw [if_pos h4] at h
  obtain rfl:=Option.some.inj h
  exact barquelaw22_do.four k fl A0 c0 l0 kind gen A1 c1 l1 w hr0 hc0 hr1 hc1 (bf_ _ _ h1) (bf_ _ _ h2) (bf_ _ _ h3) (bt_ _ _ h4)
 rw [if_neg h4] at h
 by_cases h6:kind=6
 ·rw [if_pos h6] at h
  obtain rfl:=Option.some.inj h
  exact barquelaw22_do.six k fl A0 c0 l0 kind gen A1 c1 l1 w hr0 hc0 hr1 hc1 (bf_ _ _ h1) (bf_ _ _ h2) (bf_ _ _ h3) (bf_ _ _ h4) (bt_ _ _ h6)
 rw [if_neg h6] at h
 by_cases h5:kind=5
 ·rw [if_pos h5] at h
  by_cases hg:gen < 0
  ·rw [if_pos hg] at h
   obtain rfl:=Option.some.inj h
   exact barquelaw22_do.five_neg k fl A0 c0 l0 kind gen A1 c1 l1 w hr0 hc0 hr1 hc1 (bf_ _ _ h1) (bf_ _ _ h2) (bf_ _ _ h3) (bf_ _ _ h4) (bf_ _ _ h6) (bt_ _ _ h5) (decide_eq_true hg)
  ·rw [if_neg hg] at h
   by_cases hf:gen≤fl
   ·rw [if_pos hf] at h
    obtain rfl:=Option.some.inj h
    exact barquelaw22_do.five_low k fl A0 c0 l0 kind gen A1 c1 l1 w hr0 hc0 hr1 hc1 (bf_ _ _ h1) (bf_ _ _ h2) (bf_ _ _ h3) (bf_ _ _ h4) (bf_ _ _ h6) (bt_ _ _ h5) (decide_eq_false hg) (decide_eq_false (by omega))
   ·rw [if_neg hf] at h
    by_cases hn:(l0.length:Int)≤gen
    ·rw [if_pos hn] at h
     obtain rfl:=Option.some.inj h
     exact barquelaw22_do.five_high k fl A0 c0 l0 kind gen A1 c1 l1 w hr0 hc0 hr1 hc1 (bf_ _ _ h1) (bf_ _ _ h2) (bf_ _ _ h3) (bf_ _ _ h4) (bf_ _ _ h6) (bt_ _ _ h5) (decide_eq_false hg) (decide_eq_true (by omega)) (decide_eq_true hn)
    ·rw [if_neg hn] at h
     obtain rfl:=Option.some.inj h
     exact barquelaw22_do.five_ok k fl A0 c0 l0 kind gen A1 c1 l1 w hr0 hc0 hr1 hc1 (bf_ _ _ h1) (bf_ _ _ h2) (bf_ _ _ h3) (bf_ _ _ h4) (bf_ _ _ h6) (bt_ _ _ h5) (decide_eq_false hg) (decide_eq_true (by omega)) (decide_eq_false hn)
 ·rw [if_neg h5] at h
  obtain rfl:=Option.some.inj h
  exact barquelaw22_do.dflt k fl A0 c0 l0 kind gen A1 c1 l1 w hr0 hc0 hr1 hc1 (bf_ _ _ h1) (bf_ _ _ h2) (bf_ _ _ h3) (bf_ _ _ h4) (bf_ _ _ h6) (bf_ _ _ h5)
end Go.Proofs.YthejnffhfmdpnaaDoor.Q

end
