/- Texts of this claim, in one file. -/
import Derived.Shelf.Strings.Builder1
import Derived.Shelf.Strings.BuilderF
import Derived.Shelf.Strings.BuilderK
import Derived.Shelf.Strings.Search1
import Derived.Shelf.Strings.Search2
import Derived.Shelf.Strings.Search3
import Derived.Shelf.Strings.Count
import Derived.Shelf.Strings.Split
import Derived.Lib.IndexBytes
import Derived.Shelf.Slices.Clone
import Derived.Test.YthejnffhfmdpnaaDoorProg
import Derived.Lib.SplitLaws
import Derived.Laws.RangeString
import Derived.Laws.RangeAny
import Derived.Test.YthejnffhfmdpnaaDoorNB
section
namespace Go.Proofs.YthejnffhfmdpnaaDoor.Spec
open Go.RowKit Go.Proofs.YthejnffhfmdpnaaDoor.Q Go.Proofs.YthejnffhfmdpnaaDoorW.PrintWords Go.Proofs.YthejnffhfmdpnaaDoorW.PrintLast Go.Proofs.YthejnffhfmdpnaaDoorW.PrintMore
def rest (s:ByteArray) (p:Nat):List UInt8:=s.data.toList.drop p
theorem rest_length (s:ByteArray) (p:Nat):(rest s p).length=s.size - p:=by
 unfold rest
 rw [List.length_drop,Array.length_toList]
 rfl
theorem rest_end (s:ByteArray) (p:Nat) (h:s.size≤p):rest s p= []:=List.eq_nil_of_length_eq_zero (by rw [rest_length];omega)
theorem rest_cons (s:ByteArray) (p:Nat) (h:p < s.size):rest s p=s[p]::rest s (p+1):=by
 unfold rest
 rw [List.drop_eq_getElem_cons (by rw [Array.length_toList];exact h)]
 rfl
theorem bt_nat (s:ByteArray) (p:Nat) (h:p < s.size):bt s (p:Int)=(s[p].toNat:Int):=by
 unfold bt
 rw [dif_pos (show ((p:Int)).toNat < s.size by omega)]
 rfl
def Small (s:ByteArray):Prop:=s.size≤1000000000000000000
def rNum (s:ByteArray) (p:Nat) (e:Int):Int × Nat × Int:=if e=0 then (((getL (rest s p)).1:Int),p+(getL (rest s p)).2.2,(getL (rest s p)).2.1) else (0,p,e)
theorem rNum_le (s:ByteArray) (p:Nat) (e:Int) (h:p≤s.size):(rNum s p e).2.1≤s.size:=by
 unfold rNum
 split
 ·have:=getL_used (rest s p)
  rw [rest_length] at this
  show p+_≤_
  omega
 ·exact h
theorem rNum_ge (s:ByteArray) (p:Nat) (e:Int):0≤(rNum s p e).1∧(rNum s p e).1 < 4611686018427387904:=by
 unfold rNum
 split
 ·have:=getL_lt (rest s p)
  show 0≤((getL (rest s p)).1:Int)∧((getL (rest s p)).1:Int) < _
  omega
 ·exact ⟨Int.le_refl _,by show (0:Int) < 4611686018427387904;decide⟩
theorem rNum_zero (s:ByteArray) (p:Nat) (e:Int) (h:(rNum s p e).2.2≠0):(rNum s p e).1=0:=by
 unfold rNum at h ⊢
 split
 ·rename_i he
  rw [if_pos he] at h
  have:=getL_zero (rest s p) h
  show ((getL (rest s p)).1:Int)=0
  omega
 ·rfl
theorem codeByte (s:ByteArray) (p:Nat) (hs:Small s) (h:p≤s.size):
  code_Reader_Byte.f s (p:Int) 0=if h':p < s.size then some ((s[p].toNat:Int),s,((p+1:Nat):Int),0) else some (0,s,(p:Int),3):=by
 unfold Small at hs
 unfold code_Reader_Byte.f code_Reader_off.f
 simp only [Option.bind_some]
 rw [if_neg (by decide)]
 by_cases h':p < s.size
 ·rw [dif_pos h',if_neg (by omega),w64 (n:=(p:Int)+1) (by omega) (by omega),w64 (by omega) (by omega),if_pos (by omega),if_pos (by omega)]
  rw [show (p:Int)+1 - 1=(p:Int) by omega,bt_nat s p h',w64 (by omega) (by have:=s[p].toNat_lt;omega)]
  rfl
 ·rw [dif_neg h',if_pos (by omega)]
  rfl
theorem codeByte_err (s:ByteArray) (p:Int) (e:Int) (he:e≠0):code_Reader_Byte.f s p e=some (0,s,p,e):=by
 unfold code_Reader_Byte.f code_Reader_off.f
 simp only [Option.bind_some]
 rw [if_pos (by simpa using he)]
theorem refByte (s:ByteArray) (p:Nat) (hs:Small s) (h:p≤s.size):
  barqueref01_Reader_Byte.f s (p:Int) 0=if h':p < s.size then some ((s[p].toNat:Int),s,((p+1:Nat):Int),0) else some (0,s,(p:Int),3):=by
 unfold Small at hs
 unfold barqueref01_Reader_Byte.f
 rw [if_pos rfl]
 by_cases h':p < s.size
 ·rw [dif_pos h',if_neg (by omega),w64 (n:=(p:Int)+1) (by omega) (by omega),w64 (by omega) (by omega),if_pos (by omega),if_pos (by omega)]
  rw [show (p:Int)+1 - 1=(p:Int) by omega,bt_nat s p h',w64 (by omega) (by have:=s[p].toNat_lt;omega)]
  rfl
 ·rw [dif_neg h',if_pos (by omega)]
theorem refByte_err (s:ByteArray) (p:Int) (e:Int) (he:e≠0):barqueref01_Reader_Byte.f s p e=some (0,s,p,e):=by
 unfold barqueref01_Reader_Byte.f
 rw [if_neg he]
theorem pow7 (i:Nat):(2:Int) ^ (7*i)=((128 ^ i:Nat):Int):=by
 rw [Int.pow_mul]
 norm_cast
theorem p128 (i:Nat) (h:i≤8):(128 ^ i:Nat)≤72057594037927936:=by
 have:=Nat.pow_le_pow_right (show 0 < 128 by decide) h
 exact Nat.le_trans this (by decide)
theorem add_part (a c P:Nat) (i:Nat) (hi:i≤8) (hP:P=128 ^ i) (ha:a < P) (hc:c < 128) (h8:i=8→c < 64):
  Go.bits .or .i64 (a:Int) (shl .i64 (c:Int) (wrap64 (7*(i:Int))))=((a+c*P:Nat):Int)∧a+c*P < P*128∧a+c*P < 4611686018427387904:=by
 have hp:=p128 i hi
 rw [← hP] at hp
 have hcP:c*P < 9223372036854775808 / 2:=by
  rcases Nat.lt_or_ge i 8 with h|h
  ·have e7:(128:Nat) ^ i≤128 ^ 7:=Nat.pow_le_pow_right (by decide) (by omega)
   have e:(128:Nat) ^ 7=562949953421312:=by decide
   rw [← hP] at e7
   have:=Nat.mul_le_mul (show c≤127 by omega) e7
   omega
  ·have:=h8 (by omega)
   have:=Nat.mul_le_mul (show c≤63 by omega) hp
   omega
 have hlt:a+c*P < P*128:=by
  have:=Nat.mul_le_mul_right P (show c≤127 by omega)
  omega
 have hlt2:a+c*P < 4611686018427387904:=by
  rcases Nat.lt_or_ge i 8 with h|h
  ·have e7:(128:Nat) ^ i≤128 ^ 7:=Nat.pow_le_pow_right (by decide) (by omega)
   have e:(128:Nat) ^ 7=562949953421312:=by decide
   rw [← hP] at e7
   have:=Nat.mul_le_mul (show c≤127 by omega) e7
   omega
  ·have:=h8 (by omega)
   have:=Nat.mul_le_mul (show c≤63 by omega) hp
   omega
 refine ⟨?_,hlt,hlt2⟩
 rw [w64 (by omega) (by omega)]
 unfold shl
 have e0:min (7*(i:Int)).toNat (IntKind.bits .i64)=7*i:=by
  show min (7*(i:Int)).toNat 64=7*i
  omega
 rw [e0,pow7, ← hP,IntKind.wrap_i64]
 have e1:((c:Int)*(P:Int)+9223372036854775808) % 18446744073709551616 - 9223372036854775808=((c*P:Nat):Int):=by
  have:(c:Int)*(P:Int)=((c*P:Nat):Int):=by norm_cast
  rw [this]
  omega
 rw [e1,bits_or_comm]
 have hm:((c*P:Nat):Int) % 2 ^ (7*i)=0:=by
  rw [pow7, ← hP, ← Int.natCast_emod,Nat.mul_mod_left]
  rfl
 rw [or_join _ _ (7*i) (by omega) hm (by omega) (by omega) (by rw [pow7, ← hP];omega) (by omega)]
 omega
theorem codeNum_loop (s:ByteArray) (hs:Small s) (f:Nat): ∀(k i a p:Nat),i+f=9→p≤s.size→a < 128 ^ i→3*f+2≤k→
  code_Reader_Num.l0 k (a:Int) (i:Int) s (p:Int) 0=
   some (if (getF f i (rest s p)).2.1=0 then ((a+(getF f i (rest s p)).1*128 ^ i:Nat):Int) else 0,s,((p+(getF f i (rest s p)).2.2:Nat):Int),(getF f i (rest s p)).2.1)∨f=0:=by
 induction f with
 |zero=>intro k i a p _ _ _ _;exact .inr rfl
 |succ f ih=>
  intro k i a p hi hp ha hk
  refine .inl ?_
  obtain ⟨k,rfl⟩: ∃m,k=m+3:=⟨k - 3,by omega⟩
  simp only [code_Reader_Num.l0]
  rw [codeByte s p hs hp]
  by_cases h:p < s.size
  ·rw [dif_pos h,rest_cons s p h]
   simp only [Option.bind_some,code_Reader_off.f,getF]
   rw [if_neg (by decide)]
   generalize hc:s[p]=c
   have hcl:=c.toNat_lt
   by_cases h1:0 < i∧c.toNat=0∨i=8∧63 < c.toNat
   ·rw [if_pos h1]
    have hfail: ∀x,code_Reader_Num.j2 (k+1) (a:Int) (i:Int) x true s ((p+1:Nat):Int) 0=some (0,s,((p+1:Nat):Int),5):=by
     intro x
     simp only [code_Reader_Num.j2]
     rw [if_pos trivial]
     rfl
    by_cases h8:i=8
    ·rw [if_pos (by omega)]
     by_cases h63:63 < c.toNat
     ·simp only [code_Reader_Num.j1]
      rw [if_pos (by simp;omega)]
      have e:decide ((c.toNat:Int) > 63)=true:=by simp;omega
      rw [e,hfail]
      simp
     ·have h0:c.toNat=0:=by omega
      simp only [code_Reader_Num.j1]
      rw [if_neg (by simp;omega),if_pos (by omega)]
      have e:((c.toNat:Int) == 0)=true:=by simp [h0]
      rw [e,hfail]
      simp
    ·rw [if_neg (by omega)]
     simp only [code_Reader_Num.j1]
     have h0:c.toNat=0:=by omega
     rw [if_neg (by decide),if_pos (by omega)]
     have e:((c.toNat:Int) == 0)=true:=by simp [h0]
     rw [e,hfail]
     simp
   ·rw [if_neg h1]
    have hgo: ∀x,x=false→code_Reader_Num.j2 (k+1) (a:Int) (i:Int) (c.toNat:Int) x s ((p+1:Nat):Int) 0=
      some (if (if c.toNat < 128 then (c.toNat,0,1) else (if (getF f (i+1) (rest s (p+1))).2.1=0 then c.toNat % 128+128*(getF f (i+1) (rest s (p+1))).1 else 0,(getF f (i+1) (rest s (p+1))).2.1,(getF f (i+1) (rest s (p+1))).2.2+1):Nat × Int × Nat).2.1=0 then
       ((a+(if c.toNat < 128 then (c.toNat,0,1) else (if (getF f (i+1) (rest s (p+1))).2.1=0 then c.toNat % 128+128*(getF f (i+1) (rest s (p+1))).1 else 0,(getF f (i+1) (rest s (p+1))).2.1,(getF f (i+1) (rest s (p+1))).2.2+1):Nat × Int × Nat).1*128 ^ i:Nat):Int) else 0,s,
       ((p+(if c.toNat < 128 then (c.toNat,0,1) else (if (getF f (i+1) (rest s (p+1))).2.1=0 then c.toNat % 128+128*(getF f (i+1) (rest s (p+1))).1 else 0,(getF f (i+1) (rest s (p+1))).2.1,(getF f (i+1) (rest s (p+1))).2.2+1):Nat × Int × Nat).2.2:Nat):Int),
       (if c.toNat < 128 then (c.toNat,0,1) else (if (getF f (i+1) (rest s (p+1))).2.1=0 then c.toNat % 128+128*(getF f (i+1) (rest s (p+1))).1 else 0,(getF f (i+1) (rest s (p+1))).2.1,(getF f (i+1) (rest s (p+1))).2.2+1):Nat × Int × Nat).2.1):=by
     rintro x rfl
     simp only [code_Reader_Num.j2]
     rw [if_neg (by decide),if_pos (by rw [w64 (by omega) (by omega)];omega),and127 _ (by omega) (by omega)]
     have hpart:=add_part a (c.toNat % 128) (128 ^ i) i (by omega) rfl ha (Nat.mod_lt _ (by decide)) (by omega)
     rw [show (c.toNat:Int) % 128=((c.toNat % 128:Nat):Int) by omega,hpart.1]
     by_cases h2:c.toNat < 128
     ·rw [if_pos (by omega),if_pos h2]
      simp only [if_true]
      rw [show c.toNat % 128=c.toNat by omega]
     ·rw [if_neg (by omega),if_neg h2]
      simp only
      have hf:f≠0:=by
       rintro rfl
       have:i=8:=by omega
       omega
      rw [show wrap64 ((i:Int)+1)=((i+1:Nat):Int) by rw [w64 (by omega) (by omega)];omega]
      rcases ih k (i+1) (a+c.toNat % 128*128 ^ i) (p+1) (by omega) (by omega) (by rw [Nat.pow_succ];exact hpart.2.1) (by omega) with e|e
      ·rw [e]
       by_cases h3:(getF f (i+1) (rest s (p+1))).2.1=0
       ·rw [if_pos h3,if_pos h3,if_pos h3]
        congr 2
        ·congr 1
         rw [Nat.pow_succ,Nat.add_mul,Nat.add_assoc]
         congr 2
         rw [Nat.mul_comm (128 ^ i) 128, ← Nat.mul_assoc,Nat.mul_comm _ 128]
        ·congr 2
         omega
       ·rw [if_neg h3,if_neg h3]
        congr 4
        omega
      ·exact absurd e hf
    by_cases h8:i=8
    ·rw [if_pos (by omega)]
     have e:decide ((c.toNat:Int) > 63)=false:=by simp;omega
     rw [e]
     simp only [code_Reader_Num.j1]
     rw [if_neg (by decide),if_pos (by omega)]
     exact hgo _ (by simp;omega)
    ·rw [if_neg (by omega)]
     simp only [code_Reader_Num.j1]
     rw [if_neg (by decide)]
     split
     ·exact hgo _ (by simp;omega)
     ·exact hgo _ rfl
  ·rw [dif_neg h,rest_end s p (by omega)]
   simp only [Option.bind_some,code_Reader_off.f,getF]
   rw [if_pos (by decide)]
   simp
theorem codeRNum (k:Nat) (s:ByteArray) (p:Nat) (e:Int) (hs:Small s) (h:p≤s.size) (hk:40≤k):
  code_Reader_Num.f k s (p:Int) e=some ((rNum s p e).1,s,((rNum s p e).2.1:Int),(rNum s p e).2.2):=by
 unfold code_Reader_Num.f rNum
 by_cases he:e=0
 ·subst he
  rw [if_pos rfl]
  rcases codeNum_loop s hs 9 k 0 0 p rfl h (by simp) (by omega) with hh|hh
  ·rw [show ((0:Nat):Int)=0 from rfl] at hh
   rw [hh]
   show some (if (getL (rest s p)).2.1=0 then _ else _,_)=_
   by_cases h3:(getL (rest s p)).2.1=0
   ·rw [if_pos h3]
    simp [getL]
   ·rw [if_neg h3]
    have:=getL_zero (rest s p) h3
    simp only [this]
    rfl
  ·omega
 ·rw [if_neg he]
  obtain ⟨k,rfl⟩: ∃m,k=m+1:=⟨k - 1,by omega⟩
  simp only [code_Reader_Num.l0]
  rw [codeByte_err s _ e he]
  simp only [Option.bind_some,code_Reader_off.f]
  rw [if_pos (by simpa using he)]
theorem refNum_loop (s:ByteArray) (hs:Small s) (f:Nat): ∀(k i a p:Nat),i+f=9→p≤s.size→a < 128 ^ i→2*f+1≤k→
  barqueref01_Reader_Num.l0 k (a:Int) ((128 ^ i:Nat):Int) (i:Int) s (p:Int) 0=
   some (if (getF f i (rest s p)).2.1=0 then ((a+(getF f i (rest s p)).1*128 ^ i:Nat):Int) else 0,s,((p+(getF f i (rest s p)).2.2:Nat):Int),(getF f i (rest s p)).2.1)∨f=0:=by
 induction f with
 |zero=>intro k i a p _ _ _ _;exact .inr rfl
 |succ f ih=>
  intro k i a p hi hp ha hk
  refine .inl ?_
  obtain ⟨k,rfl⟩: ∃m,k=m+2:=⟨k - 2,by omega⟩
  simp only [barqueref01_Reader_Num.l0]
  rw [if_pos (by omega),refByte s p hs hp]
  by_cases h:p < s.size
  ·rw [dif_pos h,rest_cons s p h]
   simp only [Option.bind_some,getF]
   rw [if_pos trivial]
   generalize hc:s[p]=c
   have hcl:=c.toNat_lt
   by_cases h1:0 < i∧c.toNat=0∨i=8∧63 < c.toNat
   ·rw [if_pos h1]
    have hfail: ∀x,barqueref01_Reader_Num.j1 (k+1) (a:Int) ((128 ^ i:Nat):Int) (i:Int) x true s ((p+1:Nat):Int) 0=some (0,s,((p+1:Nat):Int),5):=by
     intro x
     simp only [barqueref01_Reader_Num.j1]
     rw [if_pos trivial]
    rw [if_pos (by omega)]
    by_cases h0:c.toNat=0
    ·rw [if_pos (by omega),hfail]
     simp
    ·rw [if_neg (by omega),if_pos (by omega)]
     have e:decide ((c.toNat:Int) > 63)=true:=by simp;omega
     rw [e,hfail]
     simp
   ·rw [if_neg h1]
    have hgo: ∀x,x=false→barqueref01_Reader_Num.j1 (k+1) (a:Int) ((128 ^ i:Nat):Int) (i:Int) (c.toNat:Int) x s ((p+1:Nat):Int) 0=
      some (if (if c.toNat < 128 then (c.toNat,0,1) else (if (getF f (i+1) (rest s (p+1))).2.1=0 then c.toNat % 128+128*(getF f (i+1) (rest s (p+1))).1 else 0,(getF f (i+1) (rest s (p+1))).2.1,(getF f (i+1) (rest s (p+1))).2.2+1):Nat × Int × Nat).2.1=0 then
       ((a+(if c.toNat < 128 then (c.toNat,0,1) else (if (getF f (i+1) (rest s (p+1))).2.1=0 then c.toNat % 128+128*(getF f (i+1) (rest s (p+1))).1 else 0,(getF f (i+1) (rest s (p+1))).2.1,(getF f (i+1) (rest s (p+1))).2.2+1):Nat × Int × Nat).1*128 ^ i:Nat):Int) else 0,s,
       ((p+(if c.toNat < 128 then (c.toNat,0,1) else (if (getF f (i+1) (rest s (p+1))).2.1=0 then c.toNat % 128+128*(getF f (i+1) (rest s (p+1))).1 else 0,(getF f (i+1) (rest s (p+1))).2.1,(getF f (i+1) (rest s (p+1))).2.2+1):Nat × Int × Nat).2.2:Nat):Int),
       (if c.toNat < 128 then (c.toNat,0,1) else (if (getF f (i+1) (rest s (p+1))).2.1=0 then c.toNat % 128+128*(getF f (i+1) (rest s (p+1))).1 else 0,(getF f (i+1) (rest s (p+1))).2.1,(getF f (i+1) (rest s (p+1))).2.2+1):Nat × Int × Nat).2.1):=by
     rintro x rfl
     have hpart:=add_part a (c.toNat % 128) (128 ^ i) i (by omega) rfl ha (Nat.mod_lt _ (by decide)) (by omega)
     have hp8:=p128 i (by omega)
     have e1:Int.tmod (c.toNat:Int) 128=((c.toNat % 128:Nat):Int):=by
      rw [Int.tmod_eq_emod_of_nonneg (by omega)]
      omega
     have e2:((c.toNat % 128:Nat):Int)*((128 ^ i:Nat):Int)=((c.toNat % 128*128 ^ i:Nat):Int):=(Int.natCast_mul _ _).symm
     have e3:wrap64 ((a:Int)+wrap64 ((Int.tmod (c.toNat:Int) 128)*((128 ^ i:Nat):Int)))=((a+c.toNat % 128*128 ^ i:Nat):Int):=by
      have:=hpart.2.2
      rw [e1,e2]
      generalize c.toNat % 128*128 ^ i=X at this
      rw [w64 (n:=(X:Int)) (by omega) (by omega),w64 (by omega) (by omega)]
      omega
     simp only [barqueref01_Reader_Num.j1]
     rw [if_neg (by decide),e3]
     by_cases h2:c.toNat < 128
     ·rw [if_pos (by omega),if_pos h2]
      simp only [if_true]
      rw [show c.toNat % 128=c.toNat by omega]
     ·rw [if_neg (by omega),if_neg h2]
      simp only
      have hf:f≠0:=by
       rintro rfl
       have:i=8:=by omega
       omega
      have hi7:i≤7:=by omega
      have e4:wrap64 (((128 ^ i:Nat):Int)*128)=((128 ^ (i+1):Nat):Int):=by
       have:=p128 (i+1) (by omega)
       rw [Nat.pow_succ] at this ⊢
       generalize 128 ^ i=X at this
       rw [w64 (by omega) (by omega)]
       omega
      rw [e4,show wrap64 ((i:Int)+1)=((i+1:Nat):Int) by rw [w64 (by omega) (by omega)];omega]
      rcases ih k (i+1) (a+c.toNat % 128*128 ^ i) (p+1) (by omega) (by omega) (by rw [Nat.pow_succ];exact hpart.2.1) (by omega) with e|e
      ·rw [e]
       by_cases h3:(getF f (i+1) (rest s (p+1))).2.1=0
       ·rw [if_pos h3,if_pos h3,if_pos h3]
        congr 2
        ·congr 1
         rw [Nat.pow_succ,Nat.add_mul,Nat.add_assoc]
         congr 2
         rw [Nat.mul_comm (128 ^ i) 128, ← Nat.mul_assoc,Nat.mul_comm _ 128]
        ·congr 2
         omega
       ·rw [if_neg h3,if_neg h3]
        congr 4
        omega
      ·exact absurd e hf
    by_cases hi0:(i:Int) > 0
    ·rw [if_pos hi0,if_neg (by omega)]
     by_cases h8:i=8
     ·rw [if_pos (by omega)]
      exact hgo _ (by simp;omega)
     ·rw [if_neg (by omega)]
      exact hgo _ rfl
    ·rw [if_neg hi0,if_neg (by omega)]
     exact hgo _ rfl
  ·rw [dif_neg h,rest_end s p (by omega)]
   simp only [Option.bind_some,getF]
   rw [if_neg (by decide)]
   simp
theorem refRNum (k:Nat) (s:ByteArray) (p:Nat) (e:Int) (hs:Small s) (h:p≤s.size) (hk:40≤k):
  barqueref01_Reader_Num.f k s (p:Int) e=some ((rNum s p e).1,s,((rNum s p e).2.1:Int),(rNum s p e).2.2):=by
 unfold barqueref01_Reader_Num.f rNum
 by_cases he:e=0
 ·subst he
  rw [if_pos rfl]
  rcases refNum_loop s hs 9 k 0 0 p rfl h (by simp) (by omega) with hh|hh
  ·rw [show ((0:Nat):Int)=0 from rfl,show ((128 ^ 0:Nat):Int)=1 from rfl] at hh
   rw [hh]
   show some (if (getL (rest s p)).2.1=0 then _ else _,_)=_
   by_cases h3:(getL (rest s p)).2.1=0
   ·rw [if_pos h3]
    simp [getL]
   ·rw [if_neg h3]
    have:=getL_zero (rest s p) h3
    simp only [this]
    rfl
  ·omega
 ·rw [if_neg he]
  obtain ⟨k,rfl⟩: ∃m,k=m+1:=⟨k - 1,by omega⟩
  simp only [barqueref01_Reader_Num.l0]
  rw [if_pos (by decide),refByte_err s _ e he]
  simp only [Option.bind_some]
  rw [if_neg he]
def rRaw (s:ByteArray) (p:Nat) (e:Int) (n:Int):ByteArray × Nat × Int:=
 if e≠0 then (bs [],p,e) else if n < 0 then (bs [],p,1) else if n > (s.size:Int) - p then (bs [],p,3) else (s.extract p (p+n.toNat),p+n.toNat,0)
theorem rRaw_le (s:ByteArray) (p:Nat) (e:Int) (n:Int) (h:p≤s.size):(rRaw s p e n).2.1≤s.size:=by
 unfold rRaw
 split
 ·exact h
 ·split
  ·exact h
  ·split
   ·exact h
   ·show p+n.toNat≤s.size
    omega
theorem codeRRaw (s:ByteArray) (p:Nat) (e:Int) (n:Int) (hs:Small s) (h:p≤s.size) (hn:n < 9223372036854775808):
  code_Reader_Raw.f s (p:Int) e n=some ((rRaw s p e n).1,s,((rRaw s p e n).2.1:Int),(rRaw s p e n).2.2):=by
 unfold Small at hs
 unfold code_Reader_Raw.f rRaw code_Reader_off.f code_Reader_Left.f
 simp only [Option.bind_some]
 by_cases he:e=0
 ·subst he
  rw [if_neg (by decide),if_neg (show ¬((0:Int)≠0) by decide)]
  by_cases h0:n < 0
  ·rw [if_pos h0,if_pos h0]
   rfl
  ·rw [if_neg h0,if_neg h0,w64 (n:=(s.size:Int) - p) (by omega) (by omega)]
   by_cases h1:n > (s.size:Int) - p
   ·rw [if_pos h1,if_pos h1]
    rfl
   ·rw [if_neg h1,if_neg h1,w64 (n:=(p:Int)+n) (by omega) (by omega),w64 (by omega) (by omega),if_pos (by omega),if_pos (by omega),if_pos (by omega)]
    rw [show ((p:Int)+n - n).toNat=p by omega,show ((p:Int)+n).toNat=p+n.toNat by omega,show (p:Int)+n=((p+n.toNat:Nat):Int) by omega]
 ·rw [if_pos (by simpa using he),if_pos he]
  rfl
theorem refRRaw (s:ByteArray) (p:Nat) (e:Int) (n:Int) (hs:Small s) (h:p≤s.size) (hn:n < 9223372036854775808):
  barqueref01_Reader_Raw.f s (p:Int) e n=some ((rRaw s p e n).1,s,((rRaw s p e n).2.1:Int),(rRaw s p e n).2.2):=by
 unfold Small at hs
 unfold barqueref01_Reader_Raw.f rRaw
 by_cases he:e=0
 ·subst he
  rw [if_pos rfl,if_neg (show ¬((0:Int)≠0) by decide)]
  by_cases h0:n < 0
  ·rw [if_pos h0,if_pos h0]
   rfl
  ·rw [if_neg h0,if_neg h0,w64 (n:=(s.size:Int) - p) (by omega) (by omega)]
   by_cases h1:n > (s.size:Int) - p
   ·rw [if_pos h1,if_pos h1]
    rfl
   ·rw [if_neg h1,if_neg h1,w64 (n:=(p:Int)+n) (by omega) (by omega),w64 (by omega) (by omega),if_pos (by omega),if_pos (by omega),if_pos (by omega)]
    rw [show ((p:Int)+n - n).toNat=p by omega,show ((p:Int)+n).toNat=p+n.toNat by omega,show (p:Int)+n=((p+n.toNat:Nat):Int) by omega]
 ·rw [if_neg he,if_pos he]
  rfl
def rCount (s:ByteArray) (p:Nat) (e:Int) (most:Int):Int × Nat × Int:=
 if (rNum s p e).2.2=0∧(rNum s p e).1 > most then (0,(rNum s p e).2.1,4) else rNum s p e
theorem rCount_le (s:ByteArray) (p:Nat) (e:Int) (most:Int) (h:p≤s.size):(rCount s p e most).2.1≤s.size:=by
 have:=rNum_le s p e h
 unfold rCount
 split<;>exact this
theorem rCount_ge (s:ByteArray) (p:Nat) (e:Int) (most:Int):0≤(rCount s p e most).1∧(rCount s p e most).1 < 4611686018427387904:=by
 have:=rNum_ge s p e
 unfold rCount
 split
 ·exact ⟨Int.le_refl _,by show (0:Int) < 4611686018427387904;decide⟩
 ·exact this
theorem rCount_zero (s:ByteArray) (p:Nat) (e:Int) (most:Int) (h:(rCount s p e most).2.2≠0):(rCount s p e most).1=0:=by
 unfold rCount at h ⊢
 split
 ·rfl
 ·rename_i hc
  rw [if_neg hc] at h
  exact rNum_zero s p e h
theorem codeRCount (k:Nat) (s:ByteArray) (p:Nat) (e:Int) (most:Int) (hs:Small s) (h:p≤s.size) (hk:40≤k):
  code_Reader_Count.f k s (p:Int) e most=some ((rCount s p e most).1,s,((rCount s p e most).2.1:Int),(rCount s p e most).2.2):=by
 unfold code_Reader_Count.f
 rw [codeRNum k s p e hs h hk]
 unfold code_Reader_off.f code_Reader_fail.f code_Reader_off.f rCount
 simp only [Option.bind_some]
 by_cases he:(rNum s p e).2.2=0
 ·rw [he,if_neg (by decide)]
  by_cases h1:(rNum s p e).1 > most
  ·rw [if_pos h1,if_neg (by decide),if_pos ⟨rfl,h1⟩]
   rfl
  ·rw [if_neg h1,if_neg (fun hh=>h1 hh.2),he]
 ·rw [if_pos (by simpa using he),if_neg (fun hh=>he hh.1)]
theorem refRCount (k:Nat) (s:ByteArray) (p:Nat) (e:Int) (most:Int) (hs:Small s) (h:p≤s.size) (hk:40≤k):
  barqueref01_Reader_Count.f k s (p:Int) e most=some ((rCount s p e most).1,s,((rCount s p e most).2.1:Int),(rCount s p e most).2.2):=by
 unfold barqueref01_Reader_Count.f
 rw [refRNum k s p e hs h hk]
 unfold rCount
 simp only [Option.bind_some]
 by_cases he:(rNum s p e).2.2=0
 ·rw [he,if_pos rfl]
  by_cases h1:(rNum s p e).1 > most
  ·rw [if_pos h1,if_pos ⟨rfl,h1⟩]
  ·rw [if_neg h1,if_neg (fun hh=>h1 hh.2),he]
 ·rw [if_neg he,if_neg (fun hh=>he hh.1)]
def rText (s:ByteArray) (p:Nat) (e:Int) (most:Int):ByteArray × Nat × Int:=rRaw s (rCount s p e most).2.1 (rCount s p e most).2.2 (rCount s p e most).1
theorem rText_le (s:ByteArray) (p:Nat) (e:Int) (most:Int) (h:p≤s.size):(rText s p e most).2.1≤s.size:=rRaw_le _ _ _ _ (rCount_le s p e most h)
theorem codeRText (k:Nat) (s:ByteArray) (p:Nat) (e:Int) (most:Int) (hs:Small s) (h:p≤s.size) (hk:40≤k):
  code_Reader_Text.f k s (p:Int) e most=some ((rText s p e most).1,s,((rText s p e most).2.1:Int),(rText s p e most).2.2):=by
 unfold code_Reader_Text.f
 rw [codeRCount k s p e most hs h hk]
 simp only [Option.bind_some]
 have:=rCount_ge s p e most
 rw [codeRRaw s _ _ _ hs (rCount_le s p e most h) (by omega)]
 rfl
theorem refRText (k:Nat) (s:ByteArray) (p:Nat) (e:Int) (most:Int) (hs:Small s) (h:p≤s.size) (hk:40≤k):
  barqueref01_Reader_Text.f k s (p:Int) e most=some ((rText s p e most).1,s,((rText s p e most).2.1:Int),(rText s p e most).2.2):=by
 unfold barqueref01_Reader_Text.f
 rw [refRCount k s p e most hs h hk]
 simp only [Option.bind_some]
 have:=rCount_ge s p e most
 rw [refRRaw s _ _ _ hs (rCount_le s p e most h) (by omega)]
 rfl
end Go.Proofs.YthejnffhfmdpnaaDoor.Spec

end

section
namespace Go.Proofs.YthejnffhfmdpnaaDoor.Lay
open Go.Shelf Go.RowKit Go.Lib
def lays143_ren:Go.Shelf.Ren:=⟨fun|143=>93|219=>97|217=>99|225=>100|224=>101|267=>102|266=>103|314=>104|n=>n,fun|9=>9|3=>3|4=>4|5=>5|46=>106|146=>139|51=>138|n=>n,fun|1=>0|n=>n⟩
theorem lays143:Go.Proofs.Lays.n143 Tryd.prog lays143_ren:={
 mixed:=by kernel_rfl
 f143:=Tryd.func93.trans (congrArg some (by kernel_rfl))
 f217:=Tryd.func99.trans (congrArg some (by kernel_rfl))
 f219:=Tryd.func97.trans (congrArg some (by kernel_rfl))
 f224:=Tryd.func101.trans (congrArg some (by kernel_rfl))
 f225:=Tryd.func100.trans (congrArg some (by kernel_rfl))
 f266:=Tryd.func103.trans (congrArg some (by kernel_rfl))
 f267:=Tryd.func102.trans (congrArg some (by kernel_rfl))
 f314:=Tryd.func104.trans (congrArg some (by kernel_rfl))
 t3:=Tryd.underlying3
 a3:=Tryd.isAgg3
 z3:=Tryd.sizeOf3
 v3:=Tryd.zeroValue3
 t4:=Tryd.underlying4
 a4:=Tryd.isAgg4
 z4:=Tryd.sizeOf4
 v4:=Tryd.zeroValue4
 t5:=Tryd.underlying5
 a5:=Tryd.isAgg5
 z5:=Tryd.sizeOf5
 v5:=Tryd.zeroValue5
 t9:=Tryd.underlying9
 a9:=Tryd.isAgg9
 z9:=Tryd.sizeOf9
 v9:=Tryd.zeroValue9
 t46:=Tryd.underlying106
 a46:=Tryd.isAgg106
 z46:=Tryd.sizeOf106
 v46:=Tryd.zeroValue106
 t51:=Tryd.underlying138
 a51:=Tryd.isAgg138
 z51:=Tryd.sizeOf138
 v51:=Tryd.zeroValue138
 t146:=Tryd.underlying139
 a146:=Tryd.isAgg139
 z146:=Tryd.sizeOf139
 v146:=Tryd.zeroValue139
 g1:=by kernel_rfl}
def lays138_ren:Go.Shelf.Ren:=⟨fun|138=>92|195=>94|218=>96|143=>93|219=>97|217=>99|225=>100|224=>101|267=>102|266=>103|314=>104|n=>n,fun|9=>9|3=>3|4=>4|5=>5|0=>0|46=>106|146=>139|51=>138|n=>n,fun|1=>0|n=>n⟩
theorem lays138:Go.Proofs.Lays.n138 Tryd.prog lays138_ren:={
 mixed:=by kernel_rfl
 f138:=Tryd.func92.trans (congrArg some (by kernel_rfl))
 f143:=Tryd.func93.trans (congrArg some (by kernel_rfl))
 f195:=Tryd.func94.trans (congrArg some (by kernel_rfl))
 f217:=Tryd.func99.trans (congrArg some (by kernel_rfl))
 f218:=Tryd.func96.trans (congrArg some (by kernel_rfl))
 f219:=Tryd.func97.trans (congrArg some (by kernel_rfl))
 f224:=Tryd.func101.trans (congrArg some (by kernel_rfl))
 f225:=Tryd.func100.trans (congrArg some (by kernel_rfl))
 f266:=Tryd.func103.trans (congrArg some (by kernel_rfl))
 f267:=Tryd.func102.trans (congrArg some (by kernel_rfl))
 f314:=Tryd.func104.trans (congrArg some (by kernel_rfl))
 t0:=Tryd.underlying0
 a0:=Tryd.isAgg0
 z0:=Tryd.sizeOf0
 v0:=Tryd.zeroValue0
 t3:=Tryd.underlying3
 a3:=Tryd.isAgg3
 z3:=Tryd.sizeOf3
 v3:=Tryd.zeroValue3
 t4:=Tryd.underlying4
 a4:=Tryd.isAgg4
 z4:=Tryd.sizeOf4
 v4:=Tryd.zeroValue4
 t5:=Tryd.underlying5
 a5:=Tryd.isAgg5
 z5:=Tryd.sizeOf5
 v5:=Tryd.zeroValue5
 t9:=Tryd.underlying9
 a9:=Tryd.isAgg9
 z9:=Tryd.sizeOf9
 v9:=Tryd.zeroValue9
 t46:=Tryd.underlying106
 a46:=Tryd.isAgg106
 z46:=Tryd.sizeOf106
 v46:=Tryd.zeroValue106
 t51:=Tryd.underlying138
 a51:=Tryd.isAgg138
 z51:=Tryd.sizeOf138
 v51:=Tryd.zeroValue138
 t146:=Tryd.underlying139
 a146:=Tryd.isAgg139
 z146:=Tryd.sizeOf139
 v146:=Tryd.zeroValue139
 g1:=by kernel_rfl}
def lays221_ren:Go.Shelf.Ren:=⟨fun|221=>90|268=>91|138=>92|143=>93|195=>94|197=>95|218=>96|219=>97|260=>98|217=>99|225=>100|224=>101|267=>102|266=>103|314=>104|n=>n,fun|9=>9|3=>3|31=>31|4=>4|0=>0|105=>131|21=>21|5=>5|46=>106|119=>134|139=>137|138=>136|146=>139|51=>138|n=>n,fun|1=>0|3=>1|4=>2|n=>n⟩
theorem lays221:Go.Proofs.Lays.n221 Tryd.prog lays221_ren:={
 mixed:=by kernel_rfl
 f138:=Tryd.func92.trans (congrArg some (by kernel_rfl))
 f143:=Tryd.func93.trans (congrArg some (by kernel_rfl))
 f195:=Tryd.func94.trans (congrArg some (by kernel_rfl))
 f197:=Tryd.func95.trans (congrArg some (by kernel_rfl))
 f217:=Tryd.func99.trans (congrArg some (by kernel_rfl))
 f218:=Tryd.func96.trans (congrArg some (by kernel_rfl))
 f219:=Tryd.func97.trans (congrArg some (by kernel_rfl))
 f221:=Tryd.func90.trans (congrArg some (by kernel_rfl))
 f224:=Tryd.func101.trans (congrArg some (by kernel_rfl))
 f225:=Tryd.func100.trans (congrArg some (by kernel_rfl))
 f260:=Tryd.func98.trans (congrArg some (by kernel_rfl))
 f266:=Tryd.func103.trans (congrArg some (by kernel_rfl))
 f267:=Tryd.func102.trans (congrArg some (by kernel_rfl))
 f268:=Tryd.func91.trans (congrArg some (by kernel_rfl))
 f314:=Tryd.func104.trans (congrArg some (by kernel_rfl))
 t0:=Tryd.underlying0
 a0:=Tryd.isAgg0
 z0:=Tryd.sizeOf0
 v0:=Tryd.zeroValue0
 t3:=Tryd.underlying3
 a3:=Tryd.isAgg3
 z3:=Tryd.sizeOf3
 v3:=Tryd.zeroValue3
 t4:=Tryd.underlying4
 a4:=Tryd.isAgg4
 z4:=Tryd.sizeOf4
 v4:=Tryd.zeroValue4
 t5:=Tryd.underlying5
 a5:=Tryd.isAgg5
 z5:=Tryd.sizeOf5
 v5:=Tryd.zeroValue5
 t9:=Tryd.underlying9
 a9:=Tryd.isAgg9
 z9:=Tryd.sizeOf9
 v9:=Tryd.zeroValue9
 t21:=Tryd.underlying21
 a21:=Tryd.isAgg21
 z21:=Tryd.sizeOf21
 v21:=Tryd.zeroValue21
 t31:=Tryd.underlying31
 a31:=Tryd.isAgg31
 z31:=Tryd.sizeOf31
 v31:=Tryd.zeroValue31
 t46:=Tryd.underlying106
 a46:=Tryd.isAgg106
 z46:=Tryd.sizeOf106
 v46:=Tryd.zeroValue106
 t51:=Tryd.underlying138
 a51:=Tryd.isAgg138
 z51:=Tryd.sizeOf138
 v51:=Tryd.zeroValue138
 t105:=Tryd.underlying131
 a105:=Tryd.isAgg131
 z105:=Tryd.sizeOf131
 v105:=Tryd.zeroValue131
 t119:=Tryd.underlying134
 a119:=Tryd.isAgg134
 z119:=Tryd.sizeOf134
 t138:=Tryd.underlying136
 a138:=Tryd.isAgg136
 z138:=Tryd.sizeOf136
 v138:=Tryd.zeroValue136
 t139:=Tryd.underlying137
 a139:=Tryd.isAgg137
 z139:=Tryd.sizeOf137
 v139:=Tryd.zeroValue137
 t146:=Tryd.underlying139
 a146:=Tryd.isAgg139
 z146:=Tryd.sizeOf139
 v146:=Tryd.zeroValue139
 g1:=by kernel_rfl
 g3:=by kernel_rfl
 g4:=by kernel_rfl}
def laysNm216_ren:Go.Shelf.Ren:=⟨fun|16=>33|n=>n,fun|24=>31|9=>9|4=>4|n=>n,fun|n=>n⟩
theorem laysNm216:Go.Proofs.Lays2.n16 Tryd.prog laysNm216_ren:={
 mixed:=by kernel_rfl
 f16:=Tryd.func33.trans (congrArg some (by kernel_rfl))
 t4:=Tryd.underlying4
 a4:=Tryd.isAgg4
 z4:=Tryd.sizeOf4
 v4:=Tryd.zeroValue4
 t9:=Tryd.underlying9
 a9:=Tryd.isAgg9
 z9:=Tryd.sizeOf9
 v9:=Tryd.zeroValue9
 t24:=Tryd.underlying31
 a24:=Tryd.isAgg31
 z24:=Tryd.sizeOf31
 v24:=Tryd.zeroValue31
 i9:=by kernel_rfl}
theorem strings_Index_one (s:ByteArray) (c:UInt8) (w:World):
  Calls Tryd.prog 93 #[.string s, .string ⟨#[c]⟩] w fun e w'=>e= .returned (.int .i64 (Lib.indexByte s.data.toList c))∧w'=w:=Any.strings_Index_one lays143 s c w
theorem strings_Count_one (s:ByteArray) (c:UInt8) (w:World):
  Calls Tryd.prog 92 #[.string s, .string ⟨#[c]⟩] w fun e w'=>e= .returned (.int .i64 (Lib.countByte s.data.toList c))∧w'=w:=Any.strings_Count_one lays138 s c w
theorem slices_Clone_string (b off n c:Nat) (zs:List ByteArray) (w:World) (hz:n≤zs.length) (hbig:n*16≤140737488355328) (hc: ∀j,j < zs.length→w.cell? ⟨b,off+j,none⟩=some (.string (zs.getD j ByteArray.empty))):
  Calls Tryd.prog 33 #[.slice (some ⟨b,off,none⟩) n c] w fun e w'=> ∃v',e= .returned v'∧w'.ownsRow w.heap.size 9 1 v' n ((zs.take n).map (Value.string))∧v'≠ .slice none 0 0∧Below w.heap.size w w':=Any.slices_Clone_string laysNm216 b off n c zs w hz hbig hc
theorem slices_Clone_string_nil (n c:Nat) (w:World):
  Calls Tryd.prog 33 #[.slice none n c] w fun e w'=>e= .returned (.slice none 0 0)∧w'=w:=Any.slices_Clone_string_nil laysNm216 n c w
theorem slices_Clone_string_zero (a:Addr) (c:Nat) (w:World):
  Calls Tryd.prog 33 #[.slice (some a) 0 c] w fun e w'=> ∃v',e= .returned v'∧w'.ownsRow w.heap.size 9 1 v' 0 []∧v'≠ .slice none 0 0∧Below w.heap.size w w':=Any.slices_Clone_string_zero laysNm216 a c w
theorem genSplit_one (s:ByteArray) (c:UInt8) (sv:Nat) (n:Int) (N:Nat) (w:World) (hs:s.size < 4294967281) (hsv:sv≤1) (hn0:n≠0) (hn63:n≤9223372036854775807) (hN:(N:Int)=min (if n < 0 then (Lib.countB s ⟨#[c]⟩:Int)+1 else n) ((s.size:Int)+1)):
  Calls Tryd.prog 90 #[.string s, .string ⟨#[c]⟩, .int .i64 sv, .int .i64 n] w fun e w'=>
   e= .returned (.slice (some ⟨w.heap.size,0,none⟩) (Lib.splitB ⟨#[c]⟩ sv (N - 1) s).length N)∧w'=w.alloc (.cells (Lib.cellsOf (Lib.splitB ⟨#[c]⟩ sv (N - 1) s) N) 9):=
 Any.strings_genSplit_core lays221 (by kernel_rfl) s ⟨#[c]⟩ sv n N w hs (by show 1≤1;exact Nat.le_refl _) hsv
  (fun x cs _=>(strings_Index_one x c _).mono fun e w' ⟨he,hw⟩=>⟨by rw [he];exact congrArg (fun i=>Ending.returned (Value.int .i64 i)) (Lib.index_one x.data.toList c).symm,hw⟩)
  ((strings_Count_one s c w).mono fun e w' ⟨he,hw⟩=>⟨by
   rw [he]
   show _=Ending.returned (Value.int .i64 ((Lib.count s.data.toList [c]:Nat):Int))
   rw [Lib.count_one]
   rfl,hw⟩) hn0 hn63 hN
set_option maxHeartbeats 1000000 in
theorem split_one (s:ByteArray) (c:UInt8) (w:World) (hs:s.size < 4294967281):
  Calls Tryd.prog 84 #[.string s, .string ⟨#[c]⟩] w fun e w'=>
   e= .returned (.slice (some ⟨w.heap.size,0,none⟩) (Lib.countB s ⟨#[c]⟩+1) (Lib.countB s ⟨#[c]⟩+1))∧w'=w.alloc (.cells ((Lib.splitB ⟨#[c]⟩ 0 (Lib.countB s ⟨#[c]⟩) s).map Value.string).toArray 9):=by
 have h1:1≤(⟨#[c]⟩:ByteArray).size:=by show 1≤1;exact Nat.le_refl _
 have hle:=Lib.countB_le ⟨#[c]⟩ h1 s.size s (Nat.le_refl _)
 have hlen:=Lib.splitB_all ⟨#[c]⟩ h1 0 _ s rfl
 have g:=genSplit_one s c 0 (-1) (Lib.countB s ⟨#[c]⟩+1) w hs (Nat.zero_le _) (by decide) (by decide) (by rw [if_pos (by decide)];omega)
 rw [Nat.add_sub_cancel,hlen] at g
 have e2:Lib.cellsOf (Lib.splitB ⟨#[c]⟩ 0 (Lib.countB s ⟨#[c]⟩) s) (Lib.countB s ⟨#[c]⟩+1)=((Lib.splitB ⟨#[c]⟩ 0 (Lib.countB s ⟨#[c]⟩) s).map Value.string).toArray:=by rw [← hlen];exact Lib.cellsOf_full _
 rw [e2] at g
 clear hle hlen e2 hs h1
 generalize hk:Lib.countB s ⟨#[c]⟩=k at g ⊢
 generalize (List.map Value.string (splitB {data:=#[c]} 0 k s)).toArray=cs at g ⊢
 clear hk
 go_enter Tryd.func84,Tryd.ntmps84
 go_wp2_with (go_at_call 90;refine g.mono ?_;rintro e w' ⟨rfl,rfl⟩)
 go_ret
 exact ⟨rfl,rfl⟩
def ren:Go.Shelf.Ren:=⟨fun|166=>49|240=>62|276=>73|169=>51|170=>50|n=>n,fun|0=>0|3=>3|4=>4|5=>5|9=>9|20=>20|37=>85|70=>84|72=>87|75=>90|80=>95|127=>107|164=>117|n=>n,fun|n=>n⟩
theorem lays166:Go.Proofs.Lays.n166 Tryd.prog ren:={
 mixed:=by kernel_rfl
 f166:=Tryd.func49.trans (congrArg some (by kernel_rfl))
 f240:=Tryd.func62.trans (congrArg some (by kernel_rfl))
 f276:=Tryd.func73.trans (congrArg some (by kernel_rfl))
 t0:=Tryd.underlying0
 a0:=Tryd.isAgg0
 z0:=Tryd.sizeOf0
 v0:=Tryd.zeroValue0
 t3:=Tryd.underlying3
 a3:=Tryd.isAgg3
 z3:=Tryd.sizeOf3
 v3:=Tryd.zeroValue3
 t4:=Tryd.underlying4
 a4:=Tryd.isAgg4
 z4:=Tryd.sizeOf4
 v4:=Tryd.zeroValue4
 t9:=Tryd.underlying9
 a9:=Tryd.isAgg9
 z9:=Tryd.sizeOf9
 v9:=Tryd.zeroValue9
 t20:=Tryd.underlying20
 a20:=Tryd.isAgg20
 z20:=Tryd.sizeOf20
 v20:=Tryd.zeroValue20
 t37:=Tryd.underlying85
 a37:=Tryd.isAgg85
 z37:=Tryd.sizeOf85
 v37:=Tryd.zeroValue85
 t70:=Tryd.underlying84
 a70:=Tryd.isAgg84
 z70:=Tryd.sizeOf84
 v70:=Tryd.zeroValue84
 t72:=Tryd.underlying87
 a72:=Tryd.isAgg87
 z72:=Tryd.sizeOf87
 v72:=Tryd.zeroValue87
 t75:=Tryd.underlying90
 a75:=Tryd.isAgg90
 z75:=Tryd.sizeOf90
 v75:=Tryd.zeroValue90
 t164:=Tryd.underlying117
 a164:=Tryd.isAgg117
 z164:=Tryd.sizeOf117
 v164:=Tryd.zeroValue117
}
theorem extra:Builder.Extra Tryd.prog ren:={
 sizeBuilder:=by kernel_rfl
 liesBuilder:=by kernel_rfl
 t5:=Tryd.underlying5
 a5:=Tryd.isAgg5
 z5:=Tryd.sizeOf5
 v5:=Tryd.zeroValue5
 infoByte:=by kernel_rfl
 cellsByte:=by kernel_rfl
 sizeByte:=by kernel_rfl
 neB5:=by decide
}
theorem lays169:Go.Proofs.Lays.n169 Tryd.prog ren:={
 mixed:=by kernel_rfl
 f169:=Tryd.func51.trans (congrArg some (by kernel_rfl))
 t0:=Tryd.underlying0
 a0:=Tryd.isAgg0
 z0:=Tryd.sizeOf0
 v0:=Tryd.zeroValue0
 t3:=Tryd.underlying3
 a3:=Tryd.isAgg3
 z3:=Tryd.sizeOf3
 v3:=Tryd.zeroValue3
 t9:=Tryd.underlying9
 a9:=Tryd.isAgg9
 z9:=Tryd.sizeOf9
 v9:=Tryd.zeroValue9
 t37:=Tryd.underlying85
 a37:=Tryd.isAgg85
 z37:=Tryd.sizeOf85
 v37:=Tryd.zeroValue85
 t70:=Tryd.underlying84
 a70:=Tryd.isAgg84
 z70:=Tryd.sizeOf84
 v70:=Tryd.zeroValue84
 t72:=Tryd.underlying87
 a72:=Tryd.isAgg87
 z72:=Tryd.sizeOf87
 v72:=Tryd.zeroValue87
 t127:=Tryd.underlying107
 a127:=Tryd.isAgg107
 z127:=Tryd.sizeOf107
 v127:=Tryd.zeroValue107
}
open Go.RowKit
def Holds (B b:Nat) (l:List UInt8) (w:World):Prop:=Lib.IsBuilderF 87 5 B b (Lib.byteCells l) w
theorem Holds.fresh (w:World):Holds w.heap.size w.heap.size [] (w.alloc (.cells #[.pointer none, .slice none 0 0] 87)):=Lib.IsBuilderF.of (Lib.fresh_isBuilder 87 5 w)
theorem Holds.lt {B b:Nat} {l:List UInt8} {w:World} (h:Holds B b l w):b < w.heap.size:=by
 rcases h with h|h
 ·exact h.lt
 ·exact h.lt
theorem atF_below {B b:Nat} {p:Value} {bs:List Value} {w w':World} (h:Lib.BuilderAtF 87 5 B b p bs w) (hb:Below w.heap.size w w'):Lib.BuilderAtF 87 5 B b p bs w':=by
 have hlt:=h.lt
 obtain ⟨h1,v,h2,h3,h4⟩:=h
 refine ⟨h1,v,(hb.block b hlt).trans h2,?_,h4⟩
 obtain ⟨h5,h6⟩:=h3
 refine ⟨h5,?_⟩
 rcases h6 with h6|⟨g,cap,cur,fz,e,hg,hh,r⟩
 ·exact .inl h6
 ·exact .inr ⟨g,cap,cur,fz,e,hg,(hb.block g (Array.getElem?_eq_some_iff.1 hh).1).trans hh,r⟩
theorem Holds.below {B b:Nat} {l:List UInt8} {w w':World} (h:Holds B b l w) (hb:Below w.heap.size w w'):Holds B b l w':=by
 rcases h with h|h
 ·exact .inl (atF_below h hb)
 ·exact .inr (atF_below h hb)
theorem Holds.alloc {B b:Nat} {l:List UInt8} {w:World} (h:Holds B b l w) (o:Obj):Holds B b l (w.alloc o):=Lib.IsBuilderF.alloc h o
theorem Holds.drewN {B b:Nat} {l:List UInt8} {w:World} (h:Holds B b l w) (n:Nat):Holds B b l (w.drewN n):=h
theorem strCells_bytes (s:ByteArray):Lib.strCells s=Lib.byteCells s.data.toList:=by
 simp [Lib.strCells,Lib.byteCells]
theorem write (B b:Nat) (l:List UInt8) (s:ByteArray) (w:World) (h:Holds B b l w) (hl:l.length+s.size≤140737488355328) (hB:B≤w.heap.size):
  Calls Tryd.prog 49 #[.pointer (some ⟨b,0,none⟩), .string s] w fun e w'=>e= .returned (.tuple #[.int .i64 s.size, .nilIface])∧Holds B b (l++s.data.toList) w'∧Below B w w'∧Lib.OthersKept 5 (some b) w w':=by
 refine (Any.Builder_WriteString_k lays166 extra B b (Lib.byteCells l) s w h (by rw [Lib.byteCells_length];exact hl) hB).mono ?_
 rintro e w' ⟨rfl,h1,h2,h3⟩
 refine ⟨rfl, .inr ?_,h2,h3⟩
 rw [Lib.byteCells_append, ← strCells_bytes]
 exact h1
theorem tell (B b:Nat) (l:List UInt8) (w:World) (h:Holds B b l w) (hB:B≤w.heap.size):
  Calls Tryd.prog 51 #[.pointer (some ⟨b,0,none⟩)] w fun e w'=>e= .returned (.string ⟨l.toArray⟩)∧Below B w w':=by
 refine (Any.Builder_String_any_k lays169 extra B b l w h hB).mono ?_
 rintro e w' ⟨rfl,h1,h2,h3⟩
 exact ⟨rfl,h2⟩
theorem lays170:Go.Proofs.Lays.n170 Tryd.prog ren:={
 mixed:=by kernel_rfl
 f170:=Tryd.func50.trans (congrArg some (by kernel_rfl))
 t0:=Tryd.underlying0
 a0:=Tryd.isAgg0
 z0:=Tryd.sizeOf0
 v0:=Tryd.zeroValue0
 t3:=Tryd.underlying3
 a3:=Tryd.isAgg3
 z3:=Tryd.sizeOf3
 v3:=Tryd.zeroValue3
 t37:=Tryd.underlying85
 a37:=Tryd.isAgg85
 z37:=Tryd.sizeOf85
 v37:=Tryd.zeroValue85
 t70:=Tryd.underlying84
 a70:=Tryd.isAgg84
 z70:=Tryd.sizeOf84
 v70:=Tryd.zeroValue84
 t72:=Tryd.underlying87
 a72:=Tryd.isAgg87
 z72:=Tryd.sizeOf87
 v72:=Tryd.zeroValue87}
theorem len (B b:Nat) (l:List UInt8) (w:World) (h:Holds B b l w):
  Calls Tryd.prog 50 #[.pointer (some ⟨b,0,none⟩)] w fun e w'=>e= .returned (.int .i64 l.length)∧w'=w:=by
 have c:=Any.Builder_Len_f lays170 B b (Lib.byteCells l) w h
 rw [Lib.byteCells_length] at c
 exact c
end Go.Proofs.YthejnffhfmdpnaaDoor.Lay

end

section
namespace Go.Proofs.YthejnffhfmdpnaaDoor.Q
open Go.RowKit Go.Proofs.YthejnffhfmdpnaaDoorW.PrintWords Go.Proofs.YthejnffhfmdpnaaDoorW.PrintLast Go.Proofs.YthejnffhfmdpnaaDoorW.PrintMore
attribute [local go_sem] min2_int min_two
set_option linter.unusedVariables false
set_option linter.unusedSimpArgs false
def strings_Split.f (a0 a1:ByteArray):Option (List ByteArray):=if a1=(⟨#[47]⟩:ByteArray)∧a0.size≤4294967280 then some (Lib.splitB ⟨#[47]⟩ 0 (Lib.countB a0 ⟨#[47]⟩) a0) else none
theorem strings_Split.calls (a0 a1:ByteArray) (r:List ByteArray) (w:World) (h:strings_Split.f a0 a1=some r):
  Calls Tryd.prog 84 #[.string a0, .string a1] w fun e w'=> ∃v0_:Value,e= .returned (v0_)∧Kd.R Kd.string 9 w' w.heap.size (fun _=>True) v0_ r∧Below w.heap.size w w':=by
 unfold strings_Split.f at h
 by_cases c:a1=(⟨#[47]⟩:ByteArray)∧a0.size≤4294967280
 ·rw [if_pos c] at h
  obtain ⟨rfl,hs⟩:=c
  have h:=Option.some.inj h
  have h1:1≤(⟨#[47]⟩:ByteArray).size:=by decide
  have hle:=Lib.countB_le ⟨#[47]⟩ h1 a0.size a0 (Nat.le_refl _)
  have hlen:=Lib.splitB_all ⟨#[47]⟩ h1 0 _ a0 rfl
  rw [h] at hlen
  refine (Lay.split_one a0 47 w (by omega)).mono ?_
  rintro e w' ⟨he,hw⟩
  rw [h] at hw
  refine ⟨_,he,?_,by rw [hw];exact below_alloc (Below.refl _ _) _⟩
  rw [← hlen,hw]
  refine Kd.R_of_own (h1:=fun _=>rfl) ?_ (fun _ _=>trivial)
  have ho:=World.ownsRow_lit (base:=w.heap.size) (e:=9) (size:=1) w (r.map Value.string).toArray r.length (Nat.le_refl _) (by unfold maxLen;omega) (by simp)
  simpa [encs] using ho
 ·rw [if_neg c] at h
  exact absurd h (by simp)
end Go.Proofs.YthejnffhfmdpnaaDoor.Q

end

section
namespace Go.Proofs.YthejnffhfmdpnaaDoor.Q
open Go.RowKit Go.Proofs.YthejnffhfmdpnaaDoorW.PrintWords Go.Proofs.YthejnffhfmdpnaaDoorW.PrintLast Go.Proofs.YthejnffhfmdpnaaDoorW.PrintMore
attribute [local go_sem] min2_int min_two
set_option linter.unusedVariables false
set_option linter.unusedSimpArgs false
def tree_name.good (b:UInt8):Bool:=decide (33≤b.toNat∧b.toNat≤126)
def tree_name.f (a0:ByteArray):Option Bool:=some (if a0.toList=([]:List UInt8) then false else if a0.toList=([46]:List UInt8) then false else if a0.toList=([46,46]:List UInt8) then false else if (a0.size:Int) > 32 then false else a0.data.toList.all tree_name.good)
theorem tree_name.bad {s:ByteArray} {pos:Nat} (h:pos < s.size) (hb:tree_name.good (s[pos]'h)=false):s.data.toList.all tree_name.good=false:=by
 rw [← Bool.not_eq_true,List.all_eq_true]
 intro hall
 have:=hall (s[pos]'h) (by rw [ByteArray.getElem_eq_getElem_data];exact Array.mem_toList_iff.mpr (Array.getElem_mem _))
 rw [hb] at this
 exact absurd this (by decide)
theorem tree_name.fine {s:ByteArray} {pos:Nat} (h: ¬pos < s.size) (hb: ∀i (hi:i < s.size),i < pos→tree_name.good (s[i]'hi)=true):s.data.toList.all tree_name.good=true:=by
 rw [List.all_eq_true]
 intro x hx
 obtain ⟨i,hi,rfl⟩:=List.getElem_of_mem hx
 have hi2:i < s.size:=by simpa using hi
 have:=hb i hi2 (by omega)
 rw [ByteArray.getElem_eq_getElem_data] at this
 simpa using this
set_option maxHeartbeats 8000000 in
set_option maxRecDepth 100000 in
theorem tree_name.calls (a0:ByteArray) (r:Bool) (w:World) (h:tree_name.f a0=some r):
  Calls Tryd.prog 85 #[.string a0] w fun e w'=>e= .returned (.bool r)∧Below w.heap.size w w':=by
 have HB:=Aside0.mk (Below.refl w.heap.size w)
 unfold tree_name.f at h
 have H:=Option.some.inj h
 clear h
 by_cases c1:a0.toList=([]:List UInt8)
 ·rw [if_pos c1] at H
  subst H
  have c1b0:(a0.toList == ([]:List UInt8))=true:=beq_iff_eq.mpr c1
  clear c1
  go_enter Tryd.func85,Tryd.ntmps85
  go_wp2
  go_ret
  exact ⟨rfl,HB.out⟩
 rw [if_neg c1] at H
 have c1b0:(a0.toList == ([]:List UInt8))=false:=beq_eq_false_iff_ne.mpr c1
 clear c1
 by_cases c2:a0.toList=([46]:List UInt8)
 ·rw [if_pos c2] at H
  subst H
  have c2b0:(a0.toList == ([46]:List UInt8))=true:=beq_iff_eq.mpr c2
  clear c2
  go_enter Tryd.func85,Tryd.ntmps85
  go_wp2
  go_ret
  exact ⟨rfl,HB.out⟩
 rw [if_neg c2] at H
 have c2b0:(a0.toList == ([46]:List UInt8))=false:=beq_eq_false_iff_ne.mpr c2
 clear c2
 by_cases c3:a0.toList=([46,46]:List UInt8)
 ·rw [if_pos c3] at H
  subst H
  have c3b0:(a0.toList == ([46,46]:List UInt8))=true:=beq_iff_eq.mpr c3
  clear c3
  go_enter Tryd.func85,Tryd.ntmps85
  go_wp2
  go_ret
  exact ⟨rfl,HB.out⟩
 rw [if_neg c3] at H
 have c3b0:(a0.toList == ([46,46]:List UInt8))=false:=beq_eq_false_iff_ne.mpr c3
 clear c3
 by_cases c4:(a0.size:Int) > 32
 ·rw [if_pos c4] at H
  subst H
  have c4b0:decide (32 < (a0.size:Int))=true:=decide_eq_true c4
  have c4b1:decide (32 < a0.size)=true:=decide_eq_true (by omega)
  clear c4
  go_enter Tryd.func85,Tryd.ntmps85
  go_wp2
  go_ret
  exact ⟨rfl,HB.out⟩
 rw [if_neg c4] at H
 have c4b0:decide (32 < (a0.size:Int))=false:=decide_eq_false c4
 have c4b1:decide (32 < a0.size)=false:=decide_eq_false (by omega)
 clear c4
 have HR:=Aside0.mk H
 clear H
 go_enter Tryd.func85,Tryd.ntmps85
 go_wp2
 go_loopw [4] (fun c w'=> ∃(pos:Nat),w'=w.iter a0 pos∧Aside0 (∀i (hi:i < a0.size),i < pos→tree_name.good (a0[i]'hi)=true)) (fun _ w'=>a0.size - w'.iterPos w.heap.size)
 case atStart=>exact ⟨0,rfl,⟨fun i hi h=>absurd h (Nat.not_lt_zero _)⟩⟩
 case round=>
  obtain ⟨pos,rfl,HG⟩:=hrel
  by_cases hp:pos < a0.size
  ·by_cases hg:tree_name.good (a0[pos]'hp)=true
   ·have hg2:33≤(a0[pos]'hp).toNat∧(a0[pos]'hp).toNat≤126:=of_decide_eq_true hg
    have hnx: ∀ty,(Instr.next (.pointer (some ⟨w.heap.size,0,none⟩)) true ty).run Tryd.prog (w.iter a0 pos)=_:=fun ty=>run_next_ascii w a0 pos ty hp (by omega)
    have p1:decide (((a0[pos]'hp).toNat:Int) < 33)=false:=decide_eq_false (by omega)
    have p2:decide (126 < ((a0[pos]'hp).toNat:Int))=false:=decide_eq_false (by omega)
    have p3:decide ((a0[pos]'hp).toNat < 33)=false:=decide_eq_false (by omega)
    have p4:decide (126 < (a0[pos]'hp).toNat)=false:=decide_eq_false (by omega)
    have HG2:=Aside0.mk hg
    have HP:=Aside0.mk hp
    clear hg hg2
    go_wp2
    go_roundw
    case rel=>
     refine ⟨pos+1,rfl,⟨fun i hi h=>?_⟩⟩
     by_cases hq:i=pos
     ·subst hq
      exact HG2.out
     ·exact HG.out i hi (by omega)
    case measure=>
     simp
     have:=HP.out
     omega
   ·have hg:tree_name.good (a0[pos]'hp)=false:=by simpa using hg
    have HF:=Aside0.mk (tree_name.bad hp hg)
    have hg2: ¬(33≤(a0[pos]'hp).toNat∧(a0[pos]'hp).toNat≤126):=of_decide_eq_false hg
    clear hg
    by_cases hh:128≤(a0[pos]'hp).toNat
    ·have hnx: ∀ty,(Instr.next (.pointer (some ⟨w.heap.size,0,none⟩)) true ty).run Tryd.prog (w.iter a0 pos)=_:=fun ty=>run_next_any w a0 pos ty hp
     have hd:=(decode_high a0 pos hp hh).1
     have p1:decide (((Utf8.decode a0 pos).1:Int) < 33)=false:=decide_eq_false (by omega)
     have p2:decide (126 < ((Utf8.decode a0 pos).1:Int))=true:=decide_eq_true (by omega)
     have p3:decide ((Utf8.decode a0 pos).1 < 33)=false:=decide_eq_false (by omega)
     have p4:decide (126 < (Utf8.decode a0 pos).1)=true:=decide_eq_true (by omega)
     clear hg2 hh hd
     go_wp2
     go_ret
     exact ⟨by rw [← HR.out,HF.out];rfl,below_alloc HB.out _⟩
    ·have hnx: ∀ty,(Instr.next (.pointer (some ⟨w.heap.size,0,none⟩)) true ty).run Tryd.prog (w.iter a0 pos)=_:=fun ty=>run_next_ascii w a0 pos ty hp (by omega)
     by_cases hl:(a0[pos]'hp).toNat < 33
     ·have p1:decide (((a0[pos]'hp).toNat:Int) < 33)=true:=decide_eq_true (by omega)
      have p3:decide ((a0[pos]'hp).toNat < 33)=true:=decide_eq_true (by omega)
      clear hg2 hh hl
      go_wp2
      go_ret
      exact ⟨by rw [← HR.out,HF.out];rfl,below_alloc HB.out _⟩
     ·have p1:decide (((a0[pos]'hp).toNat:Int) < 33)=false:=decide_eq_false (by omega)
      have p2:decide (126 < ((a0[pos]'hp).toNat:Int))=true:=decide_eq_true (by omega)
      have p3:decide ((a0[pos]'hp).toNat < 33)=false:=decide_eq_false (by omega)
      have p4:decide (126 < (a0[pos]'hp).toNat)=true:=decide_eq_true (by omega)
      clear hg2 hh hl
      go_wp2
      go_ret
      exact ⟨by rw [← HR.out,HF.out];rfl,below_alloc HB.out _⟩
  ·have hnx: ∀ty,(Instr.next (.pointer (some ⟨w.heap.size,0,none⟩)) true ty).run Tryd.prog (w.iter a0 pos)=_:=fun ty=>run_next_end w a0 pos ty hp
   have HF:=Aside0.mk (tree_name.fine hp HG.out)
   go_wp2
   go_ret
   exact ⟨by rw [← HR.out,HF.out];rfl,below_alloc HB.out _⟩
end Go.Proofs.YthejnffhfmdpnaaDoor.Q

end

section
namespace Go.Proofs.YthejnffhfmdpnaaDoor.Q
open Go.RowKit Go.Proofs.YthejnffhfmdpnaaDoorW.PrintWords Go.Proofs.YthejnffhfmdpnaaDoorW.PrintLast Go.Proofs.YthejnffhfmdpnaaDoorW.PrintMore
attribute [local go_sem] min2_int min_two
set_option linter.unusedVariables false
set_option linter.unusedSimpArgs false
def tree_Path.l0:Nat→List ByteArray→Int→Int→Option (Int)
 |0,_,_,_=>none
 |k+1,x9,x10,x11=>if x11 < x10 then (if 0≤x11 then (if x11 < (x9.length:Int) then ((tree_name.f (rdOf ByteArray.empty x9 x11)).bind fun t323=>(if t323=true then (tree_Path.l0 k x9 x10 (wrap64 (x11+1))) else (some 10))) else (none)) else (none)) else (some 0)
def tree_Path.f (k:Nat) (a0:ByteArray):Option (Int):=if (a0.size:Int) > 200 then (some 4) else ((strings_Split.f a0 (⟨#[47]⟩:ByteArray)).bind fun t319=>(tree_Path.l0 k t319 (t319.length:Int) 0))
set_option maxHeartbeats 8000000 in
set_option maxRecDepth 100000 in
theorem tree_Path.calls (k:Nat) (a0:ByteArray) (r:Int) (w:World) (h:tree_Path.f k a0=some r):
  Calls Tryd.prog 70 #[.string a0] w fun e w'=>e= .returned (.int .i64 r)∧Below w.heap.size w w':=by
 have HB:=Aside0.mk (Below.refl w.heap.size w)
 have H:(if (a0.size:Int) > 200 then (some 4) else ((strings_Split.f a0 (⟨#[47]⟩:ByteArray)).bind fun t319=>(tree_Path.l0 k t319 (t319.length:Int) 0)))=some r:=h
 clear h
 by_cases c2:(a0.size:Int) > 200
 ·rw [if_pos c2] at H
  have c2b0:decide (200 < (a0.size:Int))=true:=decide_eq_true c2
  have c2b1:decide (200 < a0.size)=true:=decide_eq_true (by omega)
  clear c2
  obtain rfl:=Option.some.inj H
  go_enter Tryd.func70,Tryd.ntmps70
  go_wp2
  go_ret
  exact ⟨by first|rfl|(simp [errW_none]<;>rfl)|(simp [*]<;>rfl),by repeat (first|(with_reducible first|exact HB.out|apply below_alloc|apply pw_below_drewN|apply below_drew1)|exact HB.out)⟩
 ·rw [if_neg c2] at H
  have c2b0:decide (200 < (a0.size:Int))=false:=decide_eq_false c2
  have c2b1:decide (200 < a0.size)=false:=decide_eq_false (by omega)
  clear c2
  replace H:=Option.bind_eq_some_iff.mp H
  obtain ⟨t319,A30,H⟩:=H
  replace H:(tree_Path.l0 k t319 (t319.length:Int) 0)=some r:=H
  have A3:=Aside0.mk A30
  clear A30
  have H':=Aside0.mk H
  clear H
  go_enter Tryd.func70,Tryd.ntmps70
  go_wp2_with (first|((with_reducible refine gate_callee (f:=84) rfl ?_);refine goesL_ (some 9) rfl rfl Tryd.func84 (by kernel_rfl) rfl #[.string a0, .string (⟨#[47]⟩:ByteArray)] rfl (by (try simp only [List.map_toArray,List.map_cons,List.map_nil]);try rfl) ?_;(with_reducible refine (strings_Split.calls a0 (⟨#[47]⟩:ByteArray) t319 _ A3.out).mono ?_);rintro e w4 ⟨v320,rfl,ho0,hb⟩;refine ⟨_,rfl,?_⟩;have n0_:=Aside0.mk (Kd.R_lower ho0 (below_size (by repeat (first|(with_reducible first|exact HB.out|apply below_alloc|apply pw_below_drewN|apply below_drew1)|exact HB.out))));have n1_:=Aside0.mk (below_step (by repeat (first|(with_reducible first|exact HB.out|apply below_alloc|apply pw_below_drewN|apply below_drew1)|exact HB.out)) hb);clear HB;have HO321:=n0_;have HB:=n1_;clear n0_ n1_;obtain ⟨Ao5,co5,eo5⟩:=Kd.R_slice HO321.out;subst eo5))
  go_loopg [11] k (fun kq v11 w'=> ∃(x11_1:Int),v11= .int .i64 x11_1∧Aside0 (tree_Path.l0 kq t319 (t319.length:Int) x11_1=some r)∧Aside0 (kq≤k)∧Aside0 (Kd.R Kd.string 9 w' w.heap.size (fun _=>True) (.slice Ao5 t319.length co5) t319)∧Aside0 (Below w.heap.size w w'))
  case atStart=>exact ⟨(0),(by first|rfl|(simp;done)|(simp [*];done)),H',⟨Nat.le_refl _⟩,⟨by (with_reducible repeat (first|apply Kd.R_alloc|apply Kd.R_drewN|apply Kd.R_drew));exact HO321.out⟩,⟨by repeat (first|(with_reducible first|exact HB.out|apply below_alloc|apply pw_below_drewN|apply below_drew1)|exact HB.out)⟩⟩
  case round=>
   clear H'
   obtain ⟨x11_1,rfl,HA,HK1,HO_9,HB⟩:=hrel
   cases gk with
   |zero=>exact absurd HA.out (by simp [tree_Path.l0])
   |succ k1=>
    have H:=HA.out
    clear HA
    simp only [tree_Path.l0] at H
    by_cases c6:x11_1 < (t319.length:Int)
    ·rw [if_pos c6] at H
     have c6b0:decide (x11_1 < (t319.length:Int))=true:=decide_eq_true c6
     clear c6
     by_cases c7:0≤x11_1
     ·rw [if_pos c7] at H
      have c7b0:decide (0≤x11_1)=true:=decide_eq_true c7
      clear c7
      by_cases c8:x11_1 < (t319.length:Int)
      ·rw [if_pos c8] at H
       have c8b0:decide (x11_1 < (t319.length:Int))=true:=decide_eq_true c8
       clear c8
       replace H:=Option.bind_eq_some_iff.mp H
       obtain ⟨t323,A90,H⟩:=H
       replace H:(if t323=true then (tree_Path.l0 k1 t319 (t319.length:Int) (wrap64 (x11_1+1))) else (some 10))=some r:=H
       have A9:=Aside0.mk A90
       clear A90
       by_cases c10:t323=true
       ·subst c10
        have H1:(tree_Path.l0 k1 t319 (t319.length:Int) (wrap64 (x11_1+1)))=some r:=by rw [if_pos rfl] at H;exact H
        clear H
        have H:=H1
        clear H1
        have H':=Aside0.mk H
        clear H
        have p322:0≤(x11_1:Int):=of_decide_eq_true (by assumption)
        have q322:x11_1 < (t319.length:Int):=of_decide_eq_true (by assumption)
        obtain ⟨ad322,e322,hx322_0⟩:=Kd.at_string (Kd.R_reads' HO_9.out).2.2 x11_1 p322 q322
        cases e322
        replace p322:=eq_true p322
        replace q322:=eq_true q322
        go_wp2_with (first|((with_reducible refine gate_callee (f:=85) rfl ?_);refine goesL_ (some 16) rfl rfl Tryd.func85 (by kernel_rfl) rfl #[.string (rdOf ByteArray.empty t319 x11_1)] rfl (by (try simp only [List.map_toArray,List.map_cons,List.map_nil]);try rfl) ?_;(with_reducible refine (tree_name.calls (rdOf ByteArray.empty t319 x11_1) true _ A9.out).mono ?_);rintro e w11 ⟨rfl,hb⟩;refine ⟨_,rfl,?_⟩;have n0_:=Aside0.mk (Kd.R_below (by (with_reducible repeat (first|apply Kd.R_alloc|apply Kd.R_drewN|apply Kd.R_drew));exact HO_9.out) hb);have n1_:=Aside0.mk (below_step (by repeat (first|(with_reducible first|exact HB.out|apply below_alloc|apply pw_below_drewN|apply below_drew1)|exact HB.out)) hb);clear HO_9;clear HB;have HO_9:=n0_;have HB:=n1_;clear n0_ n1_))
        go_roundg k1
        case measure=>have:=HK1.out;omega
        case rel=>exact ⟨(wrap64 (x11_1+1)),(by first|rfl|(simp;done)|(simp [*];done)),H',⟨by have:=HK1.out;omega⟩,⟨by (with_reducible repeat (first|apply Kd.R_alloc|apply Kd.R_drewN|apply Kd.R_drew));exact HO_9.out⟩,⟨by repeat (first|(with_reducible first|exact HB.out|apply below_alloc|apply pw_below_drewN|apply below_drew1)|exact HB.out)⟩⟩
       ·replace c10:=Bool.eq_false_iff.mpr c10
        subst c10
        have H1:(some 10)=some r:=by rw [if_neg (show ¬(false=true) by decide)] at H;exact H
        clear H
        have H:=H1
        clear H1
        obtain rfl:=Option.some.inj H
        have p322:0≤(x11_1:Int):=of_decide_eq_true (by assumption)
        have q322:x11_1 < (t319.length:Int):=of_decide_eq_true (by assumption)
        obtain ⟨ad322,e322,hx322_0⟩:=Kd.at_string (Kd.R_reads' HO_9.out).2.2 x11_1 p322 q322
        cases e322
        replace p322:=eq_true p322
        replace q322:=eq_true q322
        go_wp2_with (first|((with_reducible refine gate_callee (f:=85) rfl ?_);refine goesL_ (some 16) rfl rfl Tryd.func85 (by kernel_rfl) rfl #[.string (rdOf ByteArray.empty t319 x11_1)] rfl (by (try simp only [List.map_toArray,List.map_cons,List.map_nil]);try rfl) ?_;(with_reducible refine (tree_name.calls (rdOf ByteArray.empty t319 x11_1) false _ A9.out).mono ?_);rintro e w12 ⟨rfl,hb⟩;refine ⟨_,rfl,?_⟩;have n0_:=Aside0.mk (Kd.R_below (by (with_reducible repeat (first|apply Kd.R_alloc|apply Kd.R_drewN|apply Kd.R_drew));exact HO_9.out) hb);have n1_:=Aside0.mk (below_step (by repeat (first|(with_reducible first|exact HB.out|apply below_alloc|apply pw_below_drewN|apply below_drew1)|exact HB.out)) hb);clear HO_9;clear HB;have HO_9:=n0_;have HB:=n1_;clear n0_ n1_))
        go_ret
        exact ⟨by first|rfl|(simp [errW_none]<;>rfl)|(simp [*]<;>rfl),by repeat (first|(with_reducible first|exact HB.out|apply below_alloc|apply pw_below_drewN|apply below_drew1)|exact HB.out)⟩
      ·rw [if_neg c8] at H
       exact absurd H (by simp)
     ·rw [if_neg c7] at H
      exact absurd H (by simp)
    ·rw [if_neg c6] at H
     have c6b0:decide (x11_1 < (t319.length:Int))=false:=decide_eq_false c6
     clear c6
     obtain rfl:=Option.some.inj H
     go_wp2
     go_ret
     exact ⟨by first|rfl|(simp [errW_none]<;>rfl)|(simp [*]<;>rfl),by repeat (first|(with_reducible first|exact HB.out|apply below_alloc|apply pw_below_drewN|apply below_drew1)|exact HB.out)⟩
end Go.Proofs.YthejnffhfmdpnaaDoor.Q

end

section
namespace Go.Proofs.YthejnffhfmdpnaaDoor.Q
open Go.RowKit Go.Proofs.YthejnffhfmdpnaaDoorW.PrintWords Go.Proofs.YthejnffhfmdpnaaDoorW.PrintLast Go.Proofs.YthejnffhfmdpnaaDoorW.PrintMore
attribute [local go_sem] min2_int min_two
set_option linter.unusedVariables false
set_option linter.unusedSimpArgs false
def barqueref09_Names.l0:Nat→ByteArray→List ByteArray→Int→Int→Option (List ByteArray)
 |0,_,_,_,_=>none
 |k+1,x0,x3,x4,x5=>if x5≤(x0.size:Int) then (if x5=(x0.size:Int) then (if 0≤x4 then (if x4≤x5 then (if x3.length < 8796093022208 then (barqueref09_Names.l0 k x0 (x3++[x0.extract (x4:Int).toNat (x5:Int).toNat]) (wrap64 (x5+1)) (wrap64 (x5+1))) else (none)) else (none)) else (none)) else (if 0≤x5 then (if x5 < (x0.size:Int) then (if (bt x0 x5)=47 then (if 0≤x4 then (if x4≤x5 then (if x3.length < 8796093022208 then (barqueref09_Names.l0 k x0 (x3++[x0.extract (x4:Int).toNat (x5:Int).toNat]) (wrap64 (x5+1)) (wrap64 (x5+1))) else (none)) else (none)) else (none)) else (barqueref09_Names.l0 k x0 x3 x4 (wrap64 (x5+1)))) else (none)) else (none))) else (some x3)
def barqueref09_Names.f (k:Nat) (a0:ByteArray):Option (List ByteArray):=barqueref09_Names.l0 k a0 ([]:List ByteArray) 0 0
set_option maxHeartbeats 8000000 in
set_option maxRecDepth 100000 in
theorem barqueref09_Names.calls (k:Nat) (a0:ByteArray) (r:List ByteArray) (w:World) (h:barqueref09_Names.f k a0=some r):
  Calls Tryd.prog 80 #[.string a0] w fun e w'=> ∃v0_:Value,e= .returned (v0_)∧Kd.R Kd.string 9 w' w.heap.size (fun _=>True) v0_ r∧Below w.heap.size w w':=by
 have HB:=Aside0.mk (Below.refl w.heap.size w)
 have H:(barqueref09_Names.l0 k a0 ([]:List ByteArray) 0 0)=some r:=h
 clear h
 have H':=Aside0.mk H
 clear H
 go_enter Tryd.func80,Tryd.ntmps80
 go_wp2
 go_loopg [3,4,5] k (fun kq v3 v4 v5 w'=> ∃(x3_1:List ByteArray) (x4_1:Int) (x5_1:Int),v4= .int .i64 x4_1∧v5= .int .i64 x5_1∧Aside0 (barqueref09_Names.l0 kq a0 x3_1 x4_1 x5_1=some r)∧Aside0 (kq≤k)∧Aside0 (Kd.R Kd.string 9 w' w.heap.size (fun _=>True) v3 x3_1)∧Aside0 (Below w.heap.size w w'))
 case atStart=>exact ⟨(([]:List ByteArray)),(0),(0),(by first|rfl|(simp;done)|(simp [*];done)),(by first|rfl|(simp;done)|(simp [*];done)),H',⟨Nat.le_refl _⟩,⟨by first|exact Kd.R_nil _ _ _ _ _|exact Kd.N_nil _ _ _ _ _|exact Kd.V_nil _ _ _ _ _|exact Kd.Q_nil _ _ _ _ _|exact Kd.S_nil _ _ _ _ _⟩,⟨by repeat (first|(with_reducible first|exact HB.out|apply below_alloc|apply pw_below_drewN|apply below_drew1)|exact HB.out)⟩⟩
 case round=>
  clear H'
  obtain ⟨x3_1,x4_1,x5_1,rfl,rfl,HA,HK1,HO_3,HB⟩:=hrel
  cases gk with
  |zero=>exact absurd HA.out (by simp [barqueref09_Names.l0])
  |succ k1=>
   have H:=HA.out
   clear HA
   simp only [barqueref09_Names.l0] at H
   by_cases c2:x5_1≤(a0.size:Int)
   ·rw [if_pos c2] at H
    have c2b0:decide (x5_1≤(a0.size:Int))=true:=decide_eq_true c2
    clear c2
    by_cases c3:x5_1=(a0.size:Int)
    ·rw [if_pos c3] at H
     have c3b0:(x5_1 == (a0.size:Int))=true:=beq_iff_eq.mpr c3
     have c3b1:(x5_1 != (a0.size:Int))=false:=bne_eq_false_iff_eq.mpr c3
     clear c3
     by_cases c4:0≤x4_1
     ·rw [if_pos c4] at H
      have c4b0:=eq_true c4
      have c4b1:decide (0≤x4_1)=true:=decide_eq_true c4
      clear c4
      by_cases c5:x4_1≤x5_1
      ·rw [if_pos c5] at H
       have c5b0:=eq_true c5
       have c5b1:decide (x4_1≤x5_1)=true:=decide_eq_true c5
       clear c5
       have c6b0:=eq_true (of_decide_eq_true (by assumption):x5_1≤(a0.size:Int))
       by_cases c7:x3_1.length < 8796093022208
       ·rw [if_pos c7] at H
        have LMc7:=Aside0.mk c7
        clear c7
        obtain ⟨y183,hy183⟩: ∃y_:List ByteArray,y_=(x3_1++[a0.extract (x4_1:Int).toNat (x5_1:Int).toNat]):=⟨_,rfl⟩
        replace H:(barqueref09_Names.l0 k1 a0 y183 (wrap64 (x5_1+1)) (wrap64 (x5_1+1)))=some r:=by first|(rw [hy183];with_reducible exact H)|(have H2_:=(Option.bind_some _ _).symm.trans H;rw [hy183];with_reducible exact H2_)|(have H2_:=(Option.bind_some _ _).symm.trans H;with_reducible exact H2_)|with_reducible exact H|(rw [hy183];exact H)|exact H
        have Ny183:=Aside0.mk hy183
        clear hy183
        have H':=Aside0.mk H
        clear H
        go_wp2_with (first|((with_reducible refine gate_builtin (b:= .append) (xs:=#[.tmp 22, .tmp 27]) rfl ?_);at_builtin;refine Kd.R_append Kd.string (w0:=w) w.heap.size rfl (.tmp 22) (.tmp 27) 31 9 (.string ⟨#[]⟩) 16 rfl Tryd.underlying31 info9 rfl (by decide) (by omega) u3 x3_1 (a0.extract (x4_1:Int).toNat (x5_1:Int).toNat) [.string (a0.extract (x4_1:Int).toNat (x5_1:Int).toNat)] (fun _=>True) (fun _=>False) rfl rfl ?aP (fun _ hk=>hk.elim) ?aF ?aO ?aB ?aS ?aL ?_;(case aP=>exact rfl);(case aB=>exact (by repeat (first|(with_reducible first|exact HB.out|apply below_alloc|apply pw_below_drewN|apply below_drew1)|exact HB.out)));(case aF=>exact (fun _ _=>trivial));(case aO=>exact (by (with_reducible repeat (first|apply Kd.R_alloc|apply Kd.R_drewN|apply Kd.R_drew));exact HO_3.out));(case aS=>exact (below_size (by repeat (first|(with_reducible first|exact HB.out|apply below_alloc|apply pw_below_drewN|apply below_drew1)|exact HB.out))));(case aL=>have:=LMc7.out;omega);intro v184 w8 ho hb hg hat;rw [← Ny183.out] at ho;have n0_:=Aside0.mk (hb);have n1_:=Aside0.mk (ho);clear HB;clear HO_3;have HB:=n0_;have HO185:=n1_;clear n0_ n1_;clear ho hb hg hat))
        go_roundg k1
        case measure=>have:=HK1.out;omega
        case rel=>exact ⟨(y183),(wrap64 (x5_1+1)),(wrap64 (x5_1+1)),(by first|rfl|(simp;done)|(simp [*];done)),(by first|rfl|(simp;done)|(simp [*];done)),H',⟨by have:=HK1.out;omega⟩,⟨by (with_reducible repeat (first|apply Kd.R_alloc|apply Kd.R_drewN|apply Kd.R_drew));exact HO185.out⟩,⟨by repeat (first|(with_reducible first|exact HB.out|apply below_alloc|apply pw_below_drewN|apply below_drew1)|exact HB.out)⟩⟩
       ·rw [if_neg c7] at H
        exact absurd H (by simp)
      ·rw [if_neg c5] at H
       exact absurd H (by simp)
     ·rw [if_neg c4] at H
      exact absurd H (by simp)
    ·rw [if_neg c3] at H
     have c3b0:(x5_1 == (a0.size:Int))=false:=beq_eq_false_iff_ne.mpr c3
     have c3b1:(x5_1 != (a0.size:Int))=true:=bne_iff_ne.mpr c3
     by_cases c9:0≤x5_1
     ·rw [if_pos c9] at H
      have c9b0:decide (0≤x5_1)=true:=decide_eq_true c9
      clear c9
      by_cases c10:x5_1 < (a0.size:Int)
      ·rw [if_pos c10] at H
       have c10b0:decide (x5_1 < (a0.size:Int))=true:=decide_eq_true c10
       clear c10
       by_cases c12:(bt a0 x5_1)=47
       ·rw [if_pos c12] at H
        have c12b0:((bt a0 x5_1) == 47)=true:=beq_iff_eq.mpr c12
        have c12b1:((bt a0 x5_1) != 47)=false:=bne_eq_false_iff_eq.mpr c12
        clear c12
        by_cases c13:0≤x4_1
        ·rw [if_pos c13] at H
         have c13b0:=eq_true c13
         have c13b1:decide (0≤x4_1)=true:=decide_eq_true c13
         clear c13
         by_cases c14:x4_1≤x5_1
         ·rw [if_pos c14] at H
          have c14b0:=eq_true c14
          have c14b1:decide (x4_1≤x5_1)=true:=decide_eq_true c14
          clear c14
          have c15b0:=eq_true (of_decide_eq_true (by assumption):x5_1≤(a0.size:Int))
          by_cases c16:x3_1.length < 8796093022208
          ·rw [if_pos c16] at H
           have LMc16:=Aside0.mk c16
           clear c16
           obtain ⟨y186,hy186⟩: ∃y_:List ByteArray,y_=(x3_1++[a0.extract (x4_1:Int).toNat (x5_1:Int).toNat]):=⟨_,rfl⟩
           replace H:(barqueref09_Names.l0 k1 a0 y186 (wrap64 (x5_1+1)) (wrap64 (x5_1+1)))=some r:=by first|(rw [hy186];with_reducible exact H)|(have H2_:=(Option.bind_some _ _).symm.trans H;rw [hy186];with_reducible exact H2_)|(have H2_:=(Option.bind_some _ _).symm.trans H;with_reducible exact H2_)|with_reducible exact H|(rw [hy186];exact H)|exact H
           have Ny186:=Aside0.mk hy186
           clear hy186
           have H':=Aside0.mk H
           clear H
           have p11:0≤(x5_1:Int):=of_decide_eq_true (by assumption)
           have q11:x5_1 < (a0.size:Int):=of_decide_eq_true (by assumption)
           have hx11:=bt_at a0 x5_1
           replace p11:=eq_true p11
           replace q11:=eq_true q11
           go_wp2_with (first|((with_reducible refine gate_builtin (b:= .append) (xs:=#[.tmp 22, .tmp 27]) rfl ?_);at_builtin;refine Kd.R_append Kd.string (w0:=w) w.heap.size rfl (.tmp 22) (.tmp 27) 31 9 (.string ⟨#[]⟩) 16 rfl Tryd.underlying31 info9 rfl (by decide) (by omega) u3 x3_1 (a0.extract (x4_1:Int).toNat (x5_1:Int).toNat) [.string (a0.extract (x4_1:Int).toNat (x5_1:Int).toNat)] (fun _=>True) (fun _=>False) rfl rfl ?aP (fun _ hk=>hk.elim) ?aF ?aO ?aB ?aS ?aL ?_;(case aP=>exact rfl);(case aB=>exact (by repeat (first|(with_reducible first|exact HB.out|apply below_alloc|apply pw_below_drewN|apply below_drew1)|exact HB.out)));(case aF=>exact (fun _ _=>trivial));(case aO=>exact (by (with_reducible repeat (first|apply Kd.R_alloc|apply Kd.R_drewN|apply Kd.R_drew));exact HO_3.out));(case aS=>exact (below_size (by repeat (first|(with_reducible first|exact HB.out|apply below_alloc|apply pw_below_drewN|apply below_drew1)|exact HB.out))));(case aL=>have:=LMc16.out;omega);intro v187 w17 ho hb hg hat;rw [← Ny186.out] at ho;have n0_:=Aside0.mk (hb);have n1_:=Aside0.mk (ho);clear HB;clear HO_3;have HB:=n0_;have HO188:=n1_;clear n0_ n1_;clear ho hb hg hat))
           go_roundg k1
           case measure=>have:=HK1.out;omega
           case rel=>exact ⟨(y186),(wrap64 (x5_1+1)),(wrap64 (x5_1+1)),(by first|rfl|(simp;done)|(simp [*];done)),(by first|rfl|(simp;done)|(simp [*];done)),H',⟨by have:=HK1.out;omega⟩,⟨by (with_reducible repeat (first|apply Kd.R_alloc|apply Kd.R_drewN|apply Kd.R_drew));exact HO188.out⟩,⟨by repeat (first|(with_reducible first|exact HB.out|apply below_alloc|apply pw_below_drewN|apply below_drew1)|exact HB.out)⟩⟩
          ·rw [if_neg c16] at H
           exact absurd H (by simp)
         ·rw [if_neg c14] at H
          exact absurd H (by simp)
        ·rw [if_neg c13] at H
         exact absurd H (by simp)
       ·rw [if_neg c12] at H
        have c12b0:((bt a0 x5_1) == 47)=false:=beq_eq_false_iff_ne.mpr c12
        have c12b1:((bt a0 x5_1) != 47)=true:=bne_iff_ne.mpr c12
        have H':=Aside0.mk H
        clear H
        have p11:0≤(x5_1:Int):=of_decide_eq_true (by assumption)
        have q11:x5_1 < (a0.size:Int):=of_decide_eq_true (by assumption)
        have hx11:=bt_at a0 x5_1
        replace p11:=eq_true p11
        replace q11:=eq_true q11
        go_wp2
        go_roundg k1
        case measure=>have:=HK1.out;omega
        case rel=>exact ⟨(x3_1),(x4_1),(wrap64 (x5_1+1)),(by first|rfl|(simp;done)|(simp [*];done)),(by first|rfl|(simp;done)|(simp [*];done)),H',⟨by have:=HK1.out;omega⟩,⟨by (with_reducible repeat (first|apply Kd.R_alloc|apply Kd.R_drewN|apply Kd.R_drew));exact HO_3.out⟩,⟨by repeat (first|(with_reducible first|exact HB.out|apply below_alloc|apply pw_below_drewN|apply below_drew1)|exact HB.out)⟩⟩
      ·rw [if_neg c10] at H
       exact absurd H (by simp)
     ·rw [if_neg c9] at H
      exact absurd H (by simp)
   ·rw [if_neg c2] at H
    have c2b0:decide (x5_1≤(a0.size:Int))=false:=decide_eq_false c2
    clear c2
    obtain rfl:=Option.some.inj H
    go_wp2
    go_ret
    exact ⟨_,by first|rfl|(simp [errW_none]<;>rfl)|(simp [*]<;>rfl),by (with_reducible repeat (first|apply Kd.R_alloc|apply Kd.R_drewN|apply Kd.R_drew));exact HO_3.out,by repeat (first|(with_reducible first|exact HB.out|apply below_alloc|apply pw_below_drewN|apply below_drew1)|exact HB.out)⟩
end Go.Proofs.YthejnffhfmdpnaaDoor.Q

end

section
namespace Go.Proofs.YthejnffhfmdpnaaDoor.Q
open Go.RowKit Go.Proofs.YthejnffhfmdpnaaDoorW.PrintWords Go.Proofs.YthejnffhfmdpnaaDoorW.PrintLast Go.Proofs.YthejnffhfmdpnaaDoorW.PrintMore
attribute [local go_sem] min2_int min_two
set_option linter.unusedVariables false
set_option linter.unusedSimpArgs false
mutual
def barqueref09_name.j0:Nat→ByteArray→Bool→Option (Bool)
 |0,_,_=>none
 |k+1,x0,x18=>if x18=true then (some false) else (barqueref09_name.l0 k x0 0)
def barqueref09_name.l0:Nat→ByteArray→Int→Option (Bool)
 |0,_,_=>none
 |k+1,x0,x3=>if x3 < (x0.size:Int) then (if 0≤x3 then (if (bt x0 x3) < 33 then (some false) else (if (bt x0 x3) > 126 then (some false) else (barqueref09_name.l0 k x0 (wrap64 (x3+1))))) else (none)) else (some true)
end
def barqueref09_name.f (k:Nat) (a0:ByteArray):Option (Bool):=if a0.toList=([]:List UInt8) then (barqueref09_name.j0 k a0 true) else (if a0.toList=([46]:List UInt8) then (barqueref09_name.j0 k a0 true) else (if a0.toList=([46,46]:List UInt8) then (barqueref09_name.j0 k a0 true) else (barqueref09_name.j0 k a0 (decide ((a0.size:Int) > 32)))))
set_option maxHeartbeats 8000000 in
set_option maxRecDepth 100000 in
theorem barqueref09_name.calls (k:Nat) (a0:ByteArray) (r:Bool) (w:World) (h:barqueref09_name.f k a0=some r):
  Calls Tryd.prog 81 #[.string a0] w fun e w'=>e= .returned (.bool r)∧Drawn0 w w':=by
 have H:(if a0.toList=([]:List UInt8) then (barqueref09_name.j0 k a0 true) else (if a0.toList=([46]:List UInt8) then (barqueref09_name.j0 k a0 true) else (if a0.toList=([46,46]:List UInt8) then (barqueref09_name.j0 k a0 true) else (barqueref09_name.j0 k a0 (decide ((a0.size:Int) > 32))))))=some r:=h
 clear h
 have HC2:=Aside0.mk H
 clear H
 go_enter Tryd.func81,Tryd.ntmps81
 go_upto_region 1 with (fail)
 go_cut [18] (fun v18 wc=> ∃(kq:Nat) (x18_1:Bool),v18= .bool x18_1∧Aside0 (barqueref09_name.j0 kq a0 x18_1=some r)∧Aside0 (kq≤k)∧Drawn0 w wc)
 case first=>
  have H:=HC2.out
  clear HC2
  by_cases c3:a0.toList=([]:List UInt8)
  ·rw [if_pos c3] at H
   have c3b0:(a0.toList == ([]:List UInt8))=true:=beq_iff_eq.mpr c3
   have c3b1:(a0.toList != ([]:List UInt8))=false:=bne_eq_false_iff_eq.mpr c3
   clear c3
   (first|rw [c3b0]|(simp only [i64_w];rw [c3b0])|skip)
   have H':=Aside0.mk H
   clear H
   go_wp2
   go_meet
   case rel=>exact ⟨_,(true),(by first|rfl|(simp;done)|(simp [*];done)),H',⟨by first|omega|exact Nat.le_refl _⟩,by repeat (first|exact Drawn0.refl _|apply Drawn0.step)⟩
  ·rw [if_neg c3] at H
   have c3b0:(a0.toList == ([]:List UInt8))=false:=beq_eq_false_iff_ne.mpr c3
   have c3b1:(a0.toList != ([]:List UInt8))=true:=bne_iff_ne.mpr c3
   (first|rw [c3b0]|(simp only [i64_w];rw [c3b0])|skip)
   by_cases c4:a0.toList=([46]:List UInt8)
   ·rw [if_pos c4] at H
    have c4b0:(a0.toList == ([46]:List UInt8))=true:=beq_iff_eq.mpr c4
    have c4b1:(a0.toList != ([46]:List UInt8))=false:=bne_eq_false_iff_eq.mpr c4
    clear c4
    have H':=Aside0.mk H
    clear H
    go_wp2
    go_meet
    case rel=>exact ⟨_,(true),(by first|rfl|(simp;done)|(simp [*];done)),H',⟨by first|omega|exact Nat.le_refl _⟩,by repeat (first|exact Drawn0.refl _|apply Drawn0.step)⟩
   ·rw [if_neg c4] at H
    have c4b0:(a0.toList == ([46]:List UInt8))=false:=beq_eq_false_iff_ne.mpr c4
    have c4b1:(a0.toList != ([46]:List UInt8))=true:=bne_iff_ne.mpr c4
    by_cases c5:a0.toList=([46,46]:List UInt8)
    ·rw [if_pos c5] at H
     have c5b0:(a0.toList == ([46,46]:List UInt8))=true:=beq_iff_eq.mpr c5
     have c5b1:(a0.toList != ([46,46]:List UInt8))=false:=bne_eq_false_iff_eq.mpr c5
     clear c5
     have H':=Aside0.mk H
     clear H
     go_wp2
     go_meet
     case rel=>exact ⟨_,(true),(by first|rfl|(simp;done)|(simp [*];done)),H',⟨by first|omega|exact Nat.le_refl _⟩,by repeat (first|exact Drawn0.refl _|apply Drawn0.step)⟩
    ·rw [if_neg c5] at H
     have c5b0:(a0.toList == ([46,46]:List UInt8))=false:=beq_eq_false_iff_ne.mpr c5
     have c5b1:(a0.toList != ([46,46]:List UInt8))=true:=bne_iff_ne.mpr c5
     have H':=Aside0.mk H
     clear H
     go_wp2
     go_meet
     case rel=>exact ⟨_,(decide ((a0.size:Int) > 32)),(by first|rfl|(simp;done)|(simp [*];done)),H',⟨by first|omega|exact Nat.le_refl _⟩,by repeat (first|exact Drawn0.refl _|apply Drawn0.step)⟩
 case rest=>
  clear HC2
  obtain ⟨kq,x18_1,rfl,HA,HJ1,⟨mc1,rfl⟩⟩:=hcut
  cases kq with
  |zero=>exact absurd HA.out (by simp [barqueref09_name.j0])
  |succ kj1=>
   have H:=HA.out
   clear HA
   simp only [barqueref09_name.j0] at H
   by_cases c6:x18_1=true
   ·subst c6
    have H1:(some false)=some r:=by rw [if_pos rfl] at H;exact H
    clear H
    have H:=H1
    clear H1
    obtain rfl:=Option.some.inj H
    go_wp2
    go_ret
    exact ⟨by first|rfl|(simp;done)|(simp [*];done),by repeat (first|exact Drawn0.refl _|apply Drawn0.step)⟩
   ·replace c6:=Bool.eq_false_iff.mpr c6
    subst c6
    have H1:(barqueref09_name.l0 kj1 a0 0)=some r:=by rw [if_neg (show ¬(false=true) by decide)] at H;exact H
    clear H
    have H:=H1
    clear H1
    have H':=Aside0.mk H
    clear H
    go_wp2
    go_loopg [3] kj1 (fun kq v3 w'=> ∃(x3_2:Int),v3= .int .i64 x3_2∧Aside0 (barqueref09_name.l0 kq a0 x3_2=some r)∧Aside0 (kq≤kj1)∧Drawn0 w w')
    case atStart=>exact ⟨(0),(by first|rfl|(simp;done)|(simp [*];done)),H',⟨Nat.le_refl _⟩,by repeat (first|exact Drawn0.refl _|apply Drawn0.step)⟩
    case round=>
     clear H'
     obtain ⟨x3_2,rfl,HA,HK2,⟨m2,rfl⟩⟩:=hrel
     cases gk with
     |zero=>exact absurd HA.out (by simp [barqueref09_name.l0])
     |succ k2=>
      have H:=HA.out
      clear HA
      simp only [barqueref09_name.l0] at H
      by_cases c7:x3_2 < (a0.size:Int)
      ·rw [if_pos c7] at H
       have c7b0:decide (x3_2 < (a0.size:Int))=true:=decide_eq_true c7
       clear c7
       by_cases c8:0≤x3_2
       ·rw [if_pos c8] at H
        have c8b0:decide (0≤x3_2)=true:=decide_eq_true c8
        clear c8
        by_cases c10:(bt a0 x3_2) < 33
        ·rw [if_pos c10] at H
         have c10b0:decide ((bt a0 x3_2) < 33)=true:=decide_eq_true c10
         clear c10
         obtain rfl:=Option.some.inj H
         have p9:0≤(x3_2:Int):=of_decide_eq_true (by assumption)
         have q9:x3_2 < (a0.size:Int):=of_decide_eq_true (by assumption)
         have hx9:=bt_at a0 x3_2
         replace p9:=eq_true p9
         replace q9:=eq_true q9
         go_wp2
         go_ret
         exact ⟨by first|rfl|(simp;done)|(simp [*];done),by repeat (first|exact Drawn0.refl _|apply Drawn0.step)⟩
        ·rw [if_neg c10] at H
         have c10b0:decide ((bt a0 x3_2) < 33)=false:=decide_eq_false c10
         clear c10
         by_cases c12:(bt a0 x3_2) > 126
         ·rw [if_pos c12] at H
          have c12b0:decide (126 < (bt a0 x3_2))=true:=decide_eq_true c12
          clear c12
          obtain rfl:=Option.some.inj H
          have p9:0≤(x3_2:Int):=of_decide_eq_true (by assumption)
          have q9:x3_2 < (a0.size:Int):=of_decide_eq_true (by assumption)
          have hx9:=bt_at a0 x3_2
          replace p9:=eq_true p9
          replace q9:=eq_true q9
          have p11:0≤(x3_2:Int):=of_decide_eq_true (by assumption)
          have q11:x3_2 < (a0.size:Int):=of_decide_eq_true (by assumption)
          have hx11:=bt_at a0 x3_2
          replace p11:=eq_true p11
          replace q11:=eq_true q11
          go_wp2
          go_ret
          exact ⟨by first|rfl|(simp;done)|(simp [*];done),by repeat (first|exact Drawn0.refl _|apply Drawn0.step)⟩
         ·rw [if_neg c12] at H
          have c12b0:decide (126 < (bt a0 x3_2))=false:=decide_eq_false c12
          clear c12
          have H':=Aside0.mk H
          clear H
          have p9:0≤(x3_2:Int):=of_decide_eq_true (by assumption)
          have q9:x3_2 < (a0.size:Int):=of_decide_eq_true (by assumption)
          have hx9:=bt_at a0 x3_2
          replace p9:=eq_true p9
          replace q9:=eq_true q9
          have p11:0≤(x3_2:Int):=of_decide_eq_true (by assumption)
          have q11:x3_2 < (a0.size:Int):=of_decide_eq_true (by assumption)
          have hx11:=bt_at a0 x3_2
          replace p11:=eq_true p11
          replace q11:=eq_true q11
          go_wp2
          go_roundg k2
          case measure=>have:=HJ1.out;have:=HK2.out;omega
          case rel=>exact ⟨(wrap64 (x3_2+1)),(by first|rfl|(simp;done)|(simp [*];done)),H',⟨by have:=HJ1.out;have:=HK2.out;omega⟩,by repeat (first|exact Drawn0.refl _|apply Drawn0.step)⟩
       ·rw [if_neg c8] at H
        exact absurd H (by simp)
      ·rw [if_neg c7] at H
       have c7b0:decide (x3_2 < (a0.size:Int))=false:=decide_eq_false c7
       clear c7
       obtain rfl:=Option.some.inj H
       go_wp2
       go_ret
       exact ⟨by first|rfl|(simp;done)|(simp [*];done),by repeat (first|exact Drawn0.refl _|apply Drawn0.step)⟩
end Go.Proofs.YthejnffhfmdpnaaDoor.Q

end

section
namespace Go.Proofs.YthejnffhfmdpnaaDoor.Q
open Go.RowKit Go.Proofs.YthejnffhfmdpnaaDoorW.PrintWords Go.Proofs.YthejnffhfmdpnaaDoorW.PrintLast Go.Proofs.YthejnffhfmdpnaaDoorW.PrintMore
attribute [local go_sem] min2_int min_two
set_option linter.unusedVariables false
set_option linter.unusedSimpArgs false
def barqueref09_Path.l0:Nat→List ByteArray→Int→Option (Int)
 |0,_,_=>none
 |k+1,x3,x4=>if x4 < (x3.length:Int) then (if 0≤x4 then ((barqueref09_name.f k (rdOf ByteArray.empty x3 x4)).bind fun t193=>(if t193=true then (barqueref09_Path.l0 k x3 (wrap64 (x4+1))) else (some 10))) else (none)) else (some 0)
def barqueref09_Path.f (k:Nat) (a0:ByteArray):Option (Int):=if (a0.size:Int) > 200 then (some 4) else ((barqueref09_Names.f k a0).bind fun t189=>(barqueref09_Path.l0 k t189 0))
set_option maxHeartbeats 8000000 in
set_option maxRecDepth 100000 in
theorem barqueref09_Path.calls (k:Nat) (a0:ByteArray) (r:Int) (w:World) (h:barqueref09_Path.f k a0=some r):
  Calls Tryd.prog 64 #[.string a0] w fun e w'=>e= .returned (.int .i64 r)∧Below w.heap.size w w':=by
 have HB:=Aside0.mk (Below.refl w.heap.size w)
 have H:(if (a0.size:Int) > 200 then (some 4) else ((barqueref09_Names.f k a0).bind fun t189=>(barqueref09_Path.l0 k t189 0)))=some r:=h
 clear h
 by_cases c2:(a0.size:Int) > 200
 ·rw [if_pos c2] at H
  have c2b0:decide (200 < (a0.size:Int))=true:=decide_eq_true c2
  have c2b1:decide (200 < a0.size)=true:=decide_eq_true (by omega)
  clear c2
  obtain rfl:=Option.some.inj H
  go_enter Tryd.func64,Tryd.ntmps64
  go_wp2
  go_ret
  exact ⟨by first|rfl|(simp [errW_none]<;>rfl)|(simp [*]<;>rfl),by repeat (first|(with_reducible first|exact HB.out|apply below_alloc|apply pw_below_drewN|apply below_drew1)|exact HB.out)⟩
 ·rw [if_neg c2] at H
  have c2b0:decide (200 < (a0.size:Int))=false:=decide_eq_false c2
  have c2b1:decide (200 < a0.size)=false:=decide_eq_false (by omega)
  clear c2
  replace H:=Option.bind_eq_some_iff.mp H
  obtain ⟨t189,A30,H⟩:=H
  replace H:(barqueref09_Path.l0 k t189 0)=some r:=H
  have A3:=Aside0.mk A30
  clear A30
  have H':=Aside0.mk H
  clear H
  go_enter Tryd.func64,Tryd.ntmps64
  go_wp2_with (first|((with_reducible refine gate_callee (f:=80) rfl ?_);refine goesL_ (some 9) rfl rfl Tryd.func80 (by kernel_rfl) rfl #[.string a0] rfl (by (try simp only [List.map_toArray,List.map_cons,List.map_nil]);try rfl) ?_;(with_reducible refine (barqueref09_Names.calls k a0 t189 _ A3.out).mono ?_);rintro e w4 ⟨v190,rfl,ho0,hb⟩;refine ⟨_,rfl,?_⟩;have n0_:=Aside0.mk (Kd.R_lower ho0 (below_size (by repeat (first|(with_reducible first|exact HB.out|apply below_alloc|apply pw_below_drewN|apply below_drew1)|exact HB.out))));have n1_:=Aside0.mk (below_step (by repeat (first|(with_reducible first|exact HB.out|apply below_alloc|apply pw_below_drewN|apply below_drew1)|exact HB.out)) hb);clear HB;have HO191:=n0_;have HB:=n1_;clear n0_ n1_))
  go_loopg [4] k (fun kq v4 w'=> ∃(x4_1:Int),v4= .int .i64 x4_1∧Aside0 (barqueref09_Path.l0 kq t189 x4_1=some r)∧Aside0 (kq≤k)∧Aside0 (Kd.R Kd.string 9 w' w.heap.size (fun _=>True) v190 t189)∧Aside0 (Below w.heap.size w w'))
  case atStart=>exact ⟨(0),(by first|rfl|(simp;done)|(simp [*];done)),H',⟨Nat.le_refl _⟩,⟨by (with_reducible repeat (first|apply Kd.R_alloc|apply Kd.R_drewN|apply Kd.R_drew));exact HO191.out⟩,⟨by repeat (first|(with_reducible first|exact HB.out|apply below_alloc|apply pw_below_drewN|apply below_drew1)|exact HB.out)⟩⟩
  case round=>
   clear H'
   obtain ⟨x4_1,rfl,HA,HK1,HO_3,HB⟩:=hrel
   cases gk with
   |zero=>exact absurd HA.out (by simp [barqueref09_Path.l0])
   |succ k1=>
    have H:=HA.out
    clear HA
    simp only [barqueref09_Path.l0] at H
    by_cases c5:x4_1 < (t189.length:Int)
    ·rw [if_pos c5] at H
     have c5b0:decide (x4_1 < (t189.length:Int))=true:=decide_eq_true c5
     clear c5
     by_cases c6:0≤x4_1
     ·rw [if_pos c6] at H
      have c6b0:decide (0≤x4_1)=true:=decide_eq_true c6
      clear c6
      replace H:=Option.bind_eq_some_iff.mp H
      obtain ⟨t193,A70,H⟩:=H
      replace H:(if t193=true then (barqueref09_Path.l0 k1 t189 (wrap64 (x4_1+1))) else (some 10))=some r:=H
      have A7:=Aside0.mk A70
      clear A70
      by_cases c8:t193=true
      ·subst c8
       have H1:(barqueref09_Path.l0 k1 t189 (wrap64 (x4_1+1)))=some r:=by rw [if_pos rfl] at H;exact H
       clear H
       have H:=H1
       clear H1
       have H':=Aside0.mk H
       clear H
       obtain ⟨Ao9,co9,eo9⟩:=Kd.R_slice HO_3.out
       subst eo9
       have p192:0≤(x4_1:Int):=of_decide_eq_true (by assumption)
       have q192:x4_1 < (t189.length:Int):=of_decide_eq_true (by assumption)
       obtain ⟨ad192,e192,hx192_0⟩:=Kd.at_string (Kd.R_reads' HO_3.out).2.2 x4_1 p192 q192
       cases e192
       replace p192:=eq_true p192
       replace q192:=eq_true q192
       go_wp2_with (first|((with_reducible refine gate_callee (f:=81) rfl ?_);refine goesL_ (some 20) rfl rfl Tryd.func81 (by kernel_rfl) rfl #[.string (rdOf ByteArray.empty t189 x4_1)] rfl (by (try simp only [List.map_toArray,List.map_cons,List.map_nil]);try rfl) ?_;(with_reducible refine (barqueref09_name.calls k1 (rdOf ByteArray.empty t189 x4_1) true _ A7.out).mono ?_);rintro e w' ⟨rfl,⟨nd,rfl⟩⟩;refine ⟨_,rfl,?_⟩))
       go_roundg k1
       case measure=>have:=HK1.out;omega
       case rel=>exact ⟨(wrap64 (x4_1+1)),(by first|rfl|(simp;done)|(simp [*];done)),H',⟨by have:=HK1.out;omega⟩,⟨by (with_reducible repeat (first|apply Kd.R_alloc|apply Kd.R_drewN|apply Kd.R_drew));exact HO_3.out⟩,⟨by repeat (first|(with_reducible first|exact HB.out|apply below_alloc|apply pw_below_drewN|apply below_drew1)|exact HB.out)⟩⟩
      ·replace c8:=Bool.eq_false_iff.mpr c8
       subst c8
       have H1:(some 10)=some r:=by rw [if_neg (show ¬(false=true) by decide)] at H;exact H
       clear H
       have H:=H1
       clear H1
       obtain rfl:=Option.some.inj H
       obtain ⟨Ao10,co10,eo10⟩:=Kd.R_slice HO_3.out
       subst eo10
       have p192:0≤(x4_1:Int):=of_decide_eq_true (by assumption)
       have q192:x4_1 < (t189.length:Int):=of_decide_eq_true (by assumption)
       obtain ⟨ad192,e192,hx192_0⟩:=Kd.at_string (Kd.R_reads' HO_3.out).2.2 x4_1 p192 q192
       cases e192
       replace p192:=eq_true p192
       replace q192:=eq_true q192
       go_wp2_with (first|((with_reducible refine gate_callee (f:=81) rfl ?_);refine goesL_ (some 20) rfl rfl Tryd.func81 (by kernel_rfl) rfl #[.string (rdOf ByteArray.empty t189 x4_1)] rfl (by (try simp only [List.map_toArray,List.map_cons,List.map_nil]);try rfl) ?_;(with_reducible refine (barqueref09_name.calls k1 (rdOf ByteArray.empty t189 x4_1) false _ A7.out).mono ?_);rintro e w' ⟨rfl,⟨nd,rfl⟩⟩;refine ⟨_,rfl,?_⟩))
       go_ret
       exact ⟨by first|rfl|(simp [errW_none]<;>rfl)|(simp [*]<;>rfl),by repeat (first|(with_reducible first|exact HB.out|apply below_alloc|apply pw_below_drewN|apply below_drew1)|exact HB.out)⟩
     ·rw [if_neg c6] at H
      exact absurd H (by simp)
    ·rw [if_neg c5] at H
     have c5b0:decide (x4_1 < (t189.length:Int))=false:=decide_eq_false c5
     clear c5
     obtain rfl:=Option.some.inj H
     obtain ⟨Ao11,co11,eo11⟩:=Kd.R_slice HO_3.out
     subst eo11
     go_wp2
     go_ret
     exact ⟨by first|rfl|(simp [errW_none]<;>rfl)|(simp [*]<;>rfl),by repeat (first|(with_reducible first|exact HB.out|apply below_alloc|apply pw_below_drewN|apply below_drew1)|exact HB.out)⟩
end Go.Proofs.YthejnffhfmdpnaaDoor.Q

end

section
namespace Go.Proofs.YthejnffhfmdpnaaDoor.Spec
open Go.RowKit Go.Proofs.YthejnffhfmdpnaaDoor.Q Go.Proofs.YthejnffhfmdpnaaDoorW.PrintWords Go.Proofs.YthejnffhfmdpnaaDoorW.PrintLast Go.Proofs.YthejnffhfmdpnaaDoorW.PrintMore
def parts:List UInt8→List (List UInt8)
 | []=>[[]]
 |c::t=>if c=47 then []::parts t else ((parts t).headD [] |> (c:: ·))::(parts t).tail
theorem parts_ne (l:List UInt8):parts l≠[]:=by
 cases l with
 |nil=>simp [parts]
 |cons c t=>unfold parts;split<;>simp
theorem splitK_cons_ne (b c:UInt8) (l:List UInt8) (h:b≠c) (k:Nat) (hk:Lib.count l [c]=k):Lib.splitK [c] 0 k (b::l)=(b::(Lib.splitK [c] 0 k l).headD [])::(Lib.splitK [c] 0 k l).tail:=by
 have hp:([c]:List UInt8).isPrefixOf (b::l)=false:=by simp [List.isPrefixOf,Ne.symm h]
 have hix:Lib.index (b::l) [c]=if Lib.index l [c] == -1 then -1 else Lib.index l [c]+1:=by rw [Lib.index,hp];simp
 cases k with
 |zero=>simp [Lib.splitK]
 |succ k=>
  by_cases hm:Lib.index l [c]= -1
  ·rw [Lib.count_miss hm] at hk;omega
  ·have hge:=Lib.index_ge l [c]
   obtain ⟨j,hj⟩: ∃j:Nat,Lib.index l [c]=j:=⟨(Lib.index l [c]).toNat,by omega⟩
   have hix':Lib.index (b::l) [c]=((j+1:Nat):Int):=by rw [hix,if_neg (fun e=>hm (beq_iff_eq.1 e)),hj];omega
   rw [Lib.splitK,Lib.splitK,if_neg (by rw [hix',beq_iff_eq];omega),if_neg (by rw [hj,beq_iff_eq];omega),hix',hj]
   simp
theorem splitK_parts: ∀l:List UInt8,Lib.splitK [47] 0 (Lib.count l [47]) l=parts l
 | []=>by rw [Lib.count_miss (by simp [Lib.index])];rfl
 |b::l=>by
  by_cases h:b=47
  ·subst h
   have hix:Lib.index (47::l) [47]=((0:Nat):Int):=by rw [Lib.index];simp [List.isPrefixOf]
   rw [Lib.count_cons_eq,Nat.add_comm,Lib.splitK,if_neg (by rw [hix];decide),hix]
   simp [parts,splitK_parts l]
  ·rw [Lib.count_cons_ne b 47 l h,splitK_cons_ne b 47 l h _ rfl,splitK_parts l]
   simp [parts,h]
def names (s:ByteArray):List ByteArray:=(parts s.data.toList).map bs
theorem split_names (s:ByteArray) (h:s.size≤4294967280):strings_Split.f s (⟨#[47]⟩:ByteArray)=some (names s):=by
 unfold strings_Split.f
 rw [if_pos ⟨rfl,h⟩,names, ← splitK_parts]
 congr 1
 have:=Lib.splitB_data ⟨#[47]⟩ 0 (Lib.countB s ⟨#[47]⟩) s
 rw [show (⟨#[47]⟩:ByteArray).data.toList= [47] from rfl] at this
 rw [show Lib.count s.data.toList [47]=Lib.countB s ⟨#[47]⟩ from rfl, ← this,List.map_map]
 conv=>lhs;rw [← List.map_id (Lib.splitB _ _ _ _)]
 exact List.map_congr_left (fun x _=>(bs_data x).symm)
def nameP (s:ByteArray):Bool:=if s.toList=([]:List UInt8) then false else if s.toList=([46]:List UInt8) then false else if s.toList=([46,46]:List UInt8) then false else if (s.size:Int) > 32 then false else s.data.toList.all tree_name.good
theorem codeName (s:ByteArray):tree_name.f s=some (nameP s):=rfl
def pathP (s:ByteArray):Int:=if (s.size:Int) > 200 then 4 else if (names s).all nameP then 0 else 10
theorem rdOf_cons (d _x:ByteArray) (l:List ByteArray) (i:Nat):rdOf d l (i:Int)=l.getD i d:=by simp [rdOf]
theorem codePath_l0 (l:List ByteArray) (hl:l.length < 1000000) (n:Nat): ∀(k i:Nat),i+n=l.length→n+1≤k→tree_Path.l0 k l (l.length:Int) (i:Int)=some (if (l.drop i).all nameP then 0 else 10):=by
 induction n with
 |zero=>
  intro k i hi hk
  obtain ⟨k,rfl⟩: ∃m,k=m+1:=⟨k - 1,by omega⟩
  rw [tree_Path.l0,if_neg (by omega),List.drop_eq_nil_of_le (by omega)]
  rfl
 |succ n ih=>
  intro k i hi hk
  obtain ⟨k,rfl⟩: ∃m,k=m+1:=⟨k - 1,by omega⟩
  have hil:i < l.length:=by omega
  rw [tree_Path.l0,if_pos (by omega),if_pos (by omega),if_pos (by omega),codeName,Option.bind_some,List.drop_eq_getElem_cons hil,List.all_cons,rdOf_cons _ l[i],List.getD_eq_getElem?_getD,List.getElem?_eq_getElem hil,Option.getD_some]
  by_cases hn:nameP l[i]=true
  ·rw [if_pos hn,hn,Bool.true_and,w64 (by omega) (by omega),show (i:Int)+1=((i+1:Nat):Int) by omega]
   exact ih k (i+1) (by omega) (by omega)
  ·rw [if_neg hn,Bool.eq_false_iff.mpr hn]
   rfl
theorem parts_length (l:List UInt8):(parts l).length≤l.length+1:=by
 induction l with
 |nil=>simp [parts]
 |cons c t ih=>
  have:=List.length_pos_iff.mpr (parts_ne t)
  unfold parts
  split<;>simp<;>omega
theorem names_length (s:ByteArray):(names s).length≤s.size+1:=by
 rw [names,List.length_map]
 exact parts_length _
theorem codePath (k:Nat) (s:ByteArray) (hk:202≤k):tree_Path.f k s=some (pathP s):=by
 unfold tree_Path.f pathP
 by_cases h:(s.size:Int) > 200
 ·rw [if_pos h,if_pos h]
 ·rw [if_neg h,if_neg h,split_names s (by omega),Option.bind_some]
  have hn:=names_length s
  have:=codePath_l0 (names s) (by omega) (names s).length k 0 (by omega) (by omega)
  rwa [List.drop_zero] at this
theorem headD_tail {l:List (List UInt8)} (h:l≠[]):l.headD []::l.tail=l:=by
 cases l with
 |nil=>exact absurd rfl h
 |cons a t=>rfl
def piece (s:ByteArray) (a b:Nat):List UInt8:=(s.data.toList.drop a).take (b - a)
theorem extract_bs (s:ByteArray) (a b:Nat):s.extract a b=bs (piece s a b):=by
 rw [piece, ← bs_data (s.extract a b)]
 congr 1
 exact Lib.extract_data s a b
theorem piece_next (s:ByteArray) (a i:Nat) (ha:a≤i) (hi:i < s.size):piece s a (i+1)=piece s a i++[s[i]]:=by
 have hl:i < s.data.toList.length:=by rw [Array.length_toList];exact hi
 unfold piece
 rw [show i+1 - a=(i - a)+1 by omega,List.take_succ_eq_append_getElem (by rw [List.length_drop];omega)]
 have e:(s.data.toList.drop a)[i - a]? =some s[i]:=by
  rw [List.getElem?_drop,show a+(i - a)=i by omega,List.getElem?_eq_getElem hl]
  rfl
 rw [(List.getElem?_eq_some_iff.mp e).2]
theorem piece_same (s:ByteArray) (a:Nat):piece s a a= []:=by simp [piece]
theorem refNames_l0 (s:ByteArray) (hs:s.size≤1000000) (n:Nat): ∀(k i a:Nat) (acc:List ByteArray),i+n=s.size→a≤i→n+2≤k→acc.length≤i→
  barqueref09_Names.l0 k s acc (a:Int) (i:Int)=some (acc++((piece s a i++(parts (rest s i)).headD [])::(parts (rest s i)).tail).map bs):=by
 induction n with
 |zero=>
  intro k i a acc hi ha hk hacc
  obtain ⟨k,rfl⟩: ∃m,k=m+2:=⟨k - 2,by omega⟩
  obtain rfl:i=s.size:=by omega
  rw [barqueref09_Names.l0,if_pos (by omega),if_pos rfl,if_pos (by omega),if_pos (by omega),if_pos (by omega),w64 (by omega) (by omega),barqueref09_Names.l0,if_neg (by omega),rest_end s _ (Nat.le_refl _)]
  simp [parts,extract_bs]
 |succ n ih=>
  intro k i a acc hi ha hk hacc
  obtain ⟨k,rfl⟩: ∃m,k=m+1:=⟨k - 1,by omega⟩
  have hil:i < s.size:=by omega
  rw [barqueref09_Names.l0,if_pos (by omega),if_neg (by omega),if_pos (by omega),if_pos (by omega),bt_nat s i hil,w64 (by omega) (by omega),show (i:Int)+1=((i+1:Nat):Int) by omega,rest_cons s i hil]
  by_cases h:s[i]=47
  ·rw [if_pos (by rw [h];rfl),if_pos (by omega),if_pos (by omega),if_pos (by omega),ih k (i+1) (i+1) _ (by omega) (Nat.le_refl _) (by omega) (by rw [List.length_append,List.length_singleton];omega),piece_same,List.nil_append,headD_tail (parts_ne _)]
   simp [parts,h,extract_bs]
  ·rw [if_neg (fun e=>h (by
    have:s[i].toNat=47:=by omega
    exact UInt8.toNat_inj.mp this)),ih k (i+1) a acc (by omega) (by omega) (by omega) (by omega),piece_next s a i ha hil]
   simp [parts,h]
theorem refNames (k:Nat) (s:ByteArray) (hs:s.size≤1000000) (hk:s.size+2≤k):barqueref09_Names.f k s=some (names s):=by
 unfold barqueref09_Names.f
 have:=refNames_l0 s hs s.size k 0 0 [] (by omega) (Nat.le_refl _) hk (by simp)
 rw [show ((0:Nat):Int)=0 from rfl] at this
 rw [this,List.nil_append,piece_same,List.nil_append,headD_tail (parts_ne _)]
 rfl
theorem refname_l0 (s:ByteArray) (hs:s.size≤1000000) (n:Nat): ∀(k i:Nat),i+n=s.size→n+1≤k→barqueref09_name.l0 k s (i:Int)=some ((rest s i).all tree_name.good):=by
 induction n with
 |zero=>
  intro k i hi hk
  obtain ⟨k,rfl⟩: ∃m,k=m+1:=⟨k - 1,by omega⟩
  rw [barqueref09_name.l0,if_neg (by omega),rest_end s _ (by omega)]
  rfl
 |succ n ih=>
  intro k i hi hk
  obtain ⟨k,rfl⟩: ∃m,k=m+1:=⟨k - 1,by omega⟩
  have hil:i < s.size:=by omega
  rw [barqueref09_name.l0,if_pos (by omega),if_pos (by omega),bt_nat s i hil,rest_cons s i hil,List.all_cons,w64 (by omega) (by omega),show (i:Int)+1=((i+1:Nat):Int) by omega,ih k (i+1) (by omega) (by omega)]
  unfold tree_name.good
  by_cases h1:((s[i].toNat:Int)) < 33
  ·rw [if_pos h1,decide_eq_false (by omega),Bool.false_and]
  ·rw [if_neg h1]
   by_cases h2:((s[i].toNat:Int)) > 126
   ·rw [if_pos h2,decide_eq_false (by omega),Bool.false_and]
   ·rw [if_neg h2,decide_eq_true (by omega),Bool.true_and]
theorem refname (k:Nat) (s:ByteArray) (hk:40≤k):barqueref09_name.f k s=some (nameP s):=by
 obtain ⟨k,rfl⟩: ∃m,k=m+1:=⟨k - 1,by omega⟩
 unfold barqueref09_name.f nameP
 by_cases h1:s.toList=([]:List UInt8)
 ·rw [if_pos h1,if_pos h1];rfl
 rw [if_neg h1,if_neg h1]
 by_cases h2:s.toList=([46]:List UInt8)
 ·rw [if_pos h2,if_pos h2];rfl
 rw [if_neg h2,if_neg h2]
 by_cases h3:s.toList=([46,46]:List UInt8)
 ·rw [if_pos h3,if_pos h3];rfl
 rw [if_neg h3,if_neg h3]
 by_cases h4:(s.size:Int) > 32
 ·rw [if_pos h4,decide_eq_true h4];rfl
 rw [if_neg h4,decide_eq_false h4,barqueref09_name.j0,if_neg (by decide)]
 have:=refname_l0 s (by omega) s.size k 0 (by omega) (by omega)
 rw [show ((0:Nat):Int)=0 from rfl] at this
 rw [this]
 simp [rest]
theorem refPath_l0 (l:List ByteArray) (hl:l.length < 1000000) (n:Nat): ∀(k i:Nat),i+n=l.length→n+41≤k→barqueref09_Path.l0 k l (i:Int)=some (if (l.drop i).all nameP then 0 else 10):=by
 induction n with
 |zero=>
  intro k i hi hk
  obtain ⟨k,rfl⟩: ∃m,k=m+1:=⟨k - 1,by omega⟩
  rw [barqueref09_Path.l0,if_neg (by omega),List.drop_eq_nil_of_le (by omega)]
  rfl
 |succ n ih=>
  intro k i hi hk
  obtain ⟨k,rfl⟩: ∃m,k=m+1:=⟨k - 1,by omega⟩
  have hil:i < l.length:=by omega
  rw [barqueref09_Path.l0,if_pos (by omega),if_pos (by omega),refname k _ (by omega),Option.bind_some,List.drop_eq_getElem_cons hil,List.all_cons,rdOf_cons _ l[i],List.getD_eq_getElem?_getD,List.getElem?_eq_getElem hil,Option.getD_some]
  by_cases hn:nameP l[i]=true
  ·rw [if_pos hn,hn,Bool.true_and,w64 (by omega) (by omega),show (i:Int)+1=((i+1:Nat):Int) by omega]
   exact ih k (i+1) (by omega) (by omega)
  ·rw [if_neg hn,Bool.eq_false_iff.mpr hn]
   rfl
theorem refPath (k:Nat) (s:ByteArray) (hk:242≤k):barqueref09_Path.f k s=some (pathP s):=by
 unfold barqueref09_Path.f pathP
 by_cases h:(s.size:Int) > 200
 ·rw [if_pos h,if_pos h]
 ·rw [if_neg h,if_neg h,refNames k s (by omega) (by omega),Option.bind_some]
  have hn:=names_length s
  have:=refPath_l0 (names s) (by omega) (names s).length k 0 (by omega) (by omega)
  rwa [List.drop_zero] at this
end Go.Proofs.YthejnffhfmdpnaaDoor.Spec

end

section
namespace Go.Proofs.YthejnffhfmdpnaaDoor.Q
open Go.RowKit Go.Proofs.YthejnffhfmdpnaaDoorW.PrintWords Go.Proofs.YthejnffhfmdpnaaDoorW.PrintLast Go.Proofs.YthejnffhfmdpnaaDoorW.PrintMore
attribute [local go_sem] min2_int min_two
set_option linter.unusedVariables false
set_option linter.unusedSimpArgs false
attribute [local go_sem] min2_int min_two
def tree_Order.l0:Nat→ByteArray→ByteArray→Int→Int→Option (Int)
 |0,_,_,_,_=>none
 |k+1,x0,x1,x12,x13=>if x13 < x12 then (if 0≤x13 then (if x13 < (x0.size:Int) then (if x13 < (x1.size:Int) then (if (wrap64 (bt x0 x13))=(wrap64 (bt x1 x13)) then (tree_Order.l0 k x0 x1 x12 (wrap64 (x13+1))) else (if (wrap64 (bt x0 x13))=47 then (some (-1)) else (if (wrap64 (bt x1 x13))=47 then (some 1) else (some (wrap64 ((wrap64 (bt x0 x13)) - (wrap64 (bt x1 x13)))))))) else (none)) else (none)) else (none)) else (some (wrap64 ((x0.size:Int) - (x1.size:Int))))
def tree_Order.f (k:Nat) (a0:ByteArray) (a1:ByteArray):Option (Int):=tree_Order.l0 k a0 a1 (mn (a0.size:Int) (a1.size:Int)) 0
set_option maxHeartbeats 8000000 in
set_option maxRecDepth 100000 in
theorem tree_Order.calls (k:Nat) (a0:ByteArray) (a1:ByteArray) (r:Int) (w:World) (h:tree_Order.f k a0 a1=some r):
  Calls Tryd.prog 71 #[.string a0, .string a1] w fun e w'=>e= .returned (.int .i64 r)∧Below w.heap.size w w':=by
 have HB:=Aside0.mk (Below.refl w.heap.size w)
 have H:(tree_Order.l0 k a0 a1 (mn (a0.size:Int) (a1.size:Int)) 0)=some r:=h
 clear h
 obtain ⟨ji3,hji3⟩: ∃j_:Int,(mn (a0.size:Int) (a1.size:Int))=j_:=⟨_,rfl⟩
 replace H:(tree_Order.l0 k a0 a1 ji3 0)=some r:=by first|(rw [hji3] at H;exact H)|(simp only [hji3] at H ⊢;exact H)
 (try (have hji3l:0≤ji3:=by (rw [← hji3];unfold mn;(repeat' split)<;>omega)))
 (try (have hji3m:0≤ji3:=by omega))
 have hji3_:(if (a1.size:Int) < (a0.size:Int) then (a1.size:Int) else (a0.size:Int))=ji3:=hji3
 have hji3n_:(if a1.size < a0.size then (a1.size:Int) else (a0.size:Int))=ji3:=by rw [← hji3_];simp only [Int.ofNat_lt]
 have H':=Aside0.mk H
 clear H
 go_enter Tryd.func71,Tryd.ntmps71
 go_wp2
 repeat (go_quiet (fail);try go_wp2)
 go_loopg [13] k (fun kq v13 w'=> ∃(x13_1:Int),v13= .int .i64 x13_1∧Aside0 (tree_Order.l0 kq a0 a1 ji3 x13_1=some r)∧Aside0 (kq≤k)∧Aside0 (Below w.heap.size w w'))
 case atStart=>exact ⟨(0),(by first|rfl|(simp;done)|(simp [*];done)),H',⟨Nat.le_refl _⟩,⟨by repeat (first|(with_reducible first|exact HB.out|apply below_alloc|apply pw_below_drewN|apply below_drew1)|exact HB.out)⟩⟩
 case round=>
  clear H'
  obtain ⟨x13_1,rfl,HA,HK1,HB⟩:=hrel
  cases gk with
  |zero=>exact absurd HA.out (by simp [tree_Order.l0])
  |succ k1=>
   have H:=HA.out
   clear HA
   simp only [tree_Order.l0] at H
   by_cases c4:x13_1 < ji3
   ·rw [if_pos c4] at H
    have c4b0:decide (x13_1 < ji3)=true:=decide_eq_true c4
    clear c4
    by_cases c5:0≤x13_1
    ·rw [if_pos c5] at H
     have c5b0:decide (0≤x13_1)=true:=decide_eq_true c5
     clear c5
     by_cases c6:x13_1 < (a0.size:Int)
     ·rw [if_pos c6] at H
      have c6b0:decide (x13_1 < (a0.size:Int))=true:=decide_eq_true c6
      clear c6
      by_cases c8:x13_1 < (a1.size:Int)
      ·rw [if_pos c8] at H
       have c8b0:decide (x13_1 < (a1.size:Int))=true:=decide_eq_true c8
       clear c8
       by_cases c10:(wrap64 (bt a0 x13_1))=(wrap64 (bt a1 x13_1))
       ·rw [if_pos c10] at H
        have c10b0:((wrap64 (bt a0 x13_1)) == (wrap64 (bt a1 x13_1)))=true:=beq_iff_eq.mpr c10
        have c10b1:((wrap64 (bt a0 x13_1)) != (wrap64 (bt a1 x13_1)))=false:=bne_eq_false_iff_eq.mpr c10
        clear c10
        have H':=Aside0.mk H
        clear H
        have p7:0≤(x13_1:Int):=of_decide_eq_true (by assumption)
        have q7:x13_1 < (a0.size:Int):=of_decide_eq_true (by assumption)
        have hx7:=bt_at a0 x13_1
        replace p7:=eq_true p7
        replace q7:=eq_true q7
        have p9:0≤(x13_1:Int):=of_decide_eq_true (by assumption)
        have q9:x13_1 < (a1.size:Int):=of_decide_eq_true (by assumption)
        have hx9:=bt_at a1 x13_1
        replace p9:=eq_true p9
        replace q9:=eq_true q9
        go_wp2
        repeat (go_quiet (fail);try go_wp2)
        go_roundg k1
        case measure=>have:=HK1.out;omega
        case rel=>exact ⟨(wrap64 (x13_1+1)),(by first|rfl|(simp;done)|(simp [*];done)),H',⟨by have:=HK1.out;omega⟩,⟨by repeat (first|(with_reducible first|exact HB.out|apply below_alloc|apply pw_below_drewN|apply below_drew1)|exact HB.out)⟩⟩
       ·rw [if_neg c10] at H
        have c10b0:((wrap64 (bt a0 x13_1)) == (wrap64 (bt a1 x13_1)))=false:=beq_eq_false_iff_ne.mpr c10
        have c10b1:((wrap64 (bt a0 x13_1)) != (wrap64 (bt a1 x13_1)))=true:=bne_iff_ne.mpr c10
        by_cases c11:(wrap64 (bt a0 x13_1))=47
        ·rw [if_pos c11] at H
         have c11b0:((wrap64 (bt a0 x13_1)) == 47)=true:=beq_iff_eq.mpr c11
         have c11b1:((wrap64 (bt a0 x13_1)) != 47)=false:=bne_eq_false_iff_eq.mpr c11
         clear c11
         obtain rfl:=Option.some.inj H
         have p7:0≤(x13_1:Int):=of_decide_eq_true (by assumption)
         have q7:x13_1 < (a0.size:Int):=of_decide_eq_true (by assumption)
         have hx7:=bt_at a0 x13_1
         replace p7:=eq_true p7
         replace q7:=eq_true q7
         have p9:0≤(x13_1:Int):=of_decide_eq_true (by assumption)
         have q9:x13_1 < (a1.size:Int):=of_decide_eq_true (by assumption)
         have hx9:=bt_at a1 x13_1
         replace p9:=eq_true p9
         replace q9:=eq_true q9
         go_wp2
         repeat (go_quiet (fail);try go_wp2)
         go_ret
         exact ⟨by first|rfl|(simp [errW_none]<;>rfl)|(simp only [← hji3];first|rfl|(simp [errW_none]<;>rfl))|(simp [*]<;>rfl),by repeat (first|(with_reducible first|exact HB.out|apply below_alloc|apply pw_below_drewN|apply below_drew1)|exact HB.out)⟩
        ·rw [if_neg c11] at H
         have c11b0:((wrap64 (bt a0 x13_1)) == 47)=false:=beq_eq_false_iff_ne.mpr c11
         have c11b1:((wrap64 (bt a0 x13_1)) != 47)=true:=bne_iff_ne.mpr c11
         by_cases c12:(wrap64 (bt a1 x13_1))=47
         ·rw [if_pos c12] at H
          have c12b0:((wrap64 (bt a1 x13_1)) == 47)=true:=beq_iff_eq.mpr c12
          have c12b1:((wrap64 (bt a1 x13_1)) != 47)=false:=bne_eq_false_iff_eq.mpr c12
          clear c12
          obtain rfl:=Option.some.inj H
          have p7:0≤(x13_1:Int):=of_decide_eq_true (by assumption)
          have q7:x13_1 < (a0.size:Int):=of_decide_eq_true (by assumption)
          have hx7:=bt_at a0 x13_1
          replace p7:=eq_true p7
          replace q7:=eq_true q7
          have p9:0≤(x13_1:Int):=of_decide_eq_true (by assumption)
          have q9:x13_1 < (a1.size:Int):=of_decide_eq_true (by assumption)
          have hx9:=bt_at a1 x13_1
          replace p9:=eq_true p9
          replace q9:=eq_true q9
          go_wp2
          repeat (go_quiet (fail);try go_wp2)
          go_ret
          exact ⟨by first|rfl|(simp [errW_none]<;>rfl)|(simp only [← hji3];first|rfl|(simp [errW_none]<;>rfl))|(simp [*]<;>rfl),by repeat (first|(with_reducible first|exact HB.out|apply below_alloc|apply pw_below_drewN|apply below_drew1)|exact HB.out)⟩
         ·rw [if_neg c12] at H
          have c12b0:((wrap64 (bt a1 x13_1)) == 47)=false:=beq_eq_false_iff_ne.mpr c12
          have c12b1:((wrap64 (bt a1 x13_1)) != 47)=true:=bne_iff_ne.mpr c12
          obtain rfl:=Option.some.inj H
          have p7:0≤(x13_1:Int):=of_decide_eq_true (by assumption)
          have q7:x13_1 < (a0.size:Int):=of_decide_eq_true (by assumption)
          have hx7:=bt_at a0 x13_1
          replace p7:=eq_true p7
          replace q7:=eq_true q7
          have p9:0≤(x13_1:Int):=of_decide_eq_true (by assumption)
          have q9:x13_1 < (a1.size:Int):=of_decide_eq_true (by assumption)
          have hx9:=bt_at a1 x13_1
          replace p9:=eq_true p9
          replace q9:=eq_true q9
          go_wp2
          repeat (go_quiet (fail);try go_wp2)
          go_ret
          exact ⟨by first|rfl|(simp [errW_none]<;>rfl)|(simp only [← hji3];first|rfl|(simp [errW_none]<;>rfl))|(simp [*]<;>rfl),by repeat (first|(with_reducible first|exact HB.out|apply below_alloc|apply pw_below_drewN|apply below_drew1)|exact HB.out)⟩
      ·rw [if_neg c8] at H
       exact absurd H (by simp)
     ·rw [if_neg c6] at H
      exact absurd H (by simp)
    ·rw [if_neg c5] at H
     exact absurd H (by simp)
   ·rw [if_neg c4] at H
    have c4b0:decide (x13_1 < ji3)=false:=decide_eq_false c4
    clear c4
    obtain rfl:=Option.some.inj H
    go_wp2
    repeat (go_quiet (fail);try go_wp2)
    go_ret
    exact ⟨by first|rfl|(simp [errW_none]<;>rfl)|(simp only [← hji3];first|rfl|(simp [errW_none]<;>rfl))|(simp [*]<;>rfl),by repeat (first|(with_reducible first|exact HB.out|apply below_alloc|apply pw_below_drewN|apply below_drew1)|exact HB.out)⟩
end Go.Proofs.YthejnffhfmdpnaaDoor.Q

end

section
namespace Go.Proofs.YthejnffhfmdpnaaDoor.Q
open Go.RowKit Go.Proofs.YthejnffhfmdpnaaDoorW.PrintWords Go.Proofs.YthejnffhfmdpnaaDoorW.PrintLast Go.Proofs.YthejnffhfmdpnaaDoorW.PrintMore
attribute [local go_sem] min2_int min_two
set_option linter.unusedVariables false
set_option linter.unusedSimpArgs false
def tree_Within.f (a0:ByteArray) (a1:ByteArray):Option (Bool):=some (if a1.size < a0.size then (if (a0.extract 0 a1.size).toList=a1.toList then (bt a0 (a1.size:Int)) == 47 else false) else false)
set_option maxHeartbeats 8000000 in
set_option maxRecDepth 100000 in
theorem tree_Within.calls (a0:ByteArray) (a1:ByteArray) (r:Bool) (w:World) (h:tree_Within.f a0 a1=some r):
  Calls Tryd.prog 72 #[.string a0, .string a1] w fun e w'=>e= .returned (.bool r)∧Drawn0 w w':=by
 unfold tree_Within.f at h
 have H:=Option.some.inj h
 clear h
 by_cases c3:a1.size < a0.size
 ·rw [if_pos c3] at H
  have c3b0:decide ((a1.size:Int) < (a0.size:Int))=true:=decide_eq_true (by omega)
  have c3b1:decide (a1.size < a0.size)=true:=decide_eq_true c3
  have c5:(a1.size:Int)≤(a0.size:Int):=by omega
  have c5b0:=eq_true c5
  have c5b2:=eq_true (show a1.size≤a0.size by omega)
  have c5b1:decide ((a1.size:Int)≤(a0.size:Int))=true:=decide_eq_true c5
  have hx8:=bt_at a0 (a1.size:Int)
  rw [Int.toNat_natCast] at hx8
  have HX:=Aside0.mk (hx8 c3)
  have q8:=eq_true (show (a1.size:Int) < (a0.size:Int) by omega)
  clear c5 hx8
  by_cases c6:(a0.extract 0 a1.size).toList=a1.toList
  ·rw [if_pos c6] at H
   have c6b0:((a0.extract 0 a1.size).toList == a1.toList)=true:=beq_iff_eq.mpr c6
   clear c6
   go_enter Tryd.func72,Tryd.ntmps72
   go_wp2
   go_ret
   exact ⟨by rw [← H, ← HX.out];rfl,by repeat (first|exact Drawn0.refl _|apply Drawn0.step)⟩
  ·rw [if_neg c6] at H
   subst H
   have c6b0:((a0.extract 0 a1.size).toList == a1.toList)=false:=beq_eq_false_iff_ne.mpr c6
   clear c6
   go_enter Tryd.func72,Tryd.ntmps72
   go_wp2
   go_ret
   exact ⟨rfl,by repeat (first|exact Drawn0.refl _|apply Drawn0.step)⟩
 ·rw [if_neg c3] at H
  subst H
  have c3b0:decide ((a1.size:Int) < (a0.size:Int))=false:=decide_eq_false (by omega)
  have c3b1:decide (a1.size < a0.size)=false:=decide_eq_false c3
  clear c3
  go_enter Tryd.func72,Tryd.ntmps72
  go_wp2
  go_ret
  exact ⟨rfl,by repeat (first|exact Drawn0.refl _|apply Drawn0.step)⟩
end Go.Proofs.YthejnffhfmdpnaaDoor.Q

end

section
namespace Go.Proofs.YthejnffhfmdpnaaDoor.Q
open Go.RowKit Go.Proofs.YthejnffhfmdpnaaDoorW.PrintWords Go.Proofs.YthejnffhfmdpnaaDoorW.PrintLast Go.Proofs.YthejnffhfmdpnaaDoorW.PrintMore
attribute [local go_sem] min2_int min_two
set_option linter.unusedVariables false
set_option linter.unusedSimpArgs false
def tree_paths.l0:Nat→List ByteArray→List ByteArray→Int→Int→Option (Int)
 |0,_,_,_,_=>none
 |k+1,x0,x10,x11,x12=>if x12 < x11 then (if 0≤x12 then (if x12 < (x10.length:Int) then ((tree_Path.f k (rdOf ByteArray.empty x10 x12)).bind fun t325=>(if t325=0 then (if x12=0 then (tree_paths.l0 k x0 x10 x11 (wrap64 (x12+1))) else (if 0≤(wrap64 (x12 - 1)) then (if (wrap64 (x12 - 1)) < (x0.length:Int) then ((tree_Order.f k (rdOf ByteArray.empty x0 (wrap64 (x12 - 1))) (rdOf ByteArray.empty x10 x12)).bind fun t327=>(if t327 > 0 then (some 12) else (if t327=0 then (some 9) else ((tree_Within.f (rdOf ByteArray.empty x10 x12) (rdOf ByteArray.empty x0 (wrap64 (x12 - 1)))).bind fun t329=>(if t329=true then (some 9) else (tree_paths.l0 k x0 x10 x11 (wrap64 (x12+1)))))))) else (none)) else (none))) else (some t325))) else (none)) else (none)) else (some 0)
def tree_paths.f (k:Nat) (l0:List ByteArray):Option (Int):=if (l0.length:Int) > 256 then (some 7) else (tree_paths.l0 k l0 l0 (l0.length:Int) 0)
set_option maxHeartbeats 8000000 in
set_option maxRecDepth 100000 in
theorem tree_paths.calls (k:Nat) (A0:Option Addr) (c0:Nat) (l0:List ByteArray) (r:Int) (w:World) (hr0:Kd.C Kd.string w A0 l0.length l0) (hc0:l0.length≤c0) (h:tree_paths.f k l0=some r):
  Calls Tryd.prog 60 #[.slice A0 l0.length c0] w fun e w'=>e= .returned (.int .i64 r)∧Below w.heap.size w w':=by
 have HR0:=Aside0.mk hr0
 have HC0:=Aside0.mk hc0
 clear hr0 hc0
 have HB:=Aside0.mk (Below.refl w.heap.size w)
 have H:(if (l0.length:Int) > 256 then (some 7) else (tree_paths.l0 k l0 l0 (l0.length:Int) 0))=some r:=h
 clear h
 by_cases c2:(l0.length:Int) > 256
 ·rw [if_pos c2] at H
  have c2b0:decide (256 < (l0.length:Int))=true:=decide_eq_true c2
  have c2b1:decide (256 < l0.length)=true:=decide_eq_true (by omega)
  clear c2
  obtain rfl:=Option.some.inj H
  go_enter Tryd.func60,Tryd.ntmps60
  go_wp2
  go_ret
  exact ⟨by first|rfl|(simp [errW_none]<;>rfl)|(simp [*]<;>rfl),by repeat (first|(with_reducible first|exact HB.out|apply below_alloc|apply pw_below_drewN|apply below_drew1)|exact HB.out)⟩
 ·rw [if_neg c2] at H
  have c2b0:decide (256 < (l0.length:Int))=false:=decide_eq_false c2
  have c2b1:decide (256 < l0.length)=false:=decide_eq_false (by omega)
  clear c2
  have H':=Aside0.mk H
  clear H
  go_enter Tryd.func60,Tryd.ntmps60
  go_wp2
  go_loopg [12] k (fun kq v12 w'=> ∃(x12_1:Int),v12= .int .i64 x12_1∧Aside0 (tree_paths.l0 kq l0 l0 (l0.length:Int) x12_1=some r)∧Aside0 (kq≤k)∧Aside0 (Below w.heap.size w w'))
  case atStart=>exact ⟨(0),(by first|rfl|(simp;done)|(simp [*];done)),H',⟨Nat.le_refl _⟩,⟨by repeat (first|(with_reducible first|exact HB.out|apply below_alloc|apply pw_below_drewN|apply below_drew1)|exact HB.out)⟩⟩
  case round=>
   clear H'
   obtain ⟨x12_1,rfl,HA,HK1,HB⟩:=hrel
   cases gk with
   |zero=>exact absurd HA.out (by simp [tree_paths.l0])
   |succ k1=>
    have H:=HA.out
    clear HA
    simp only [tree_paths.l0] at H
    by_cases c3:x12_1 < (l0.length:Int)
    ·rw [if_pos c3] at H
     have c3b0:decide (x12_1 < (l0.length:Int))=true:=decide_eq_true c3
     clear c3
     by_cases c4:0≤x12_1
     ·rw [if_pos c4] at H
      have c4b0:decide (0≤x12_1)=true:=decide_eq_true c4
      clear c4
      by_cases c5:x12_1 < (l0.length:Int)
      ·rw [if_pos c5] at H
       have c5b0:decide (x12_1 < (l0.length:Int))=true:=decide_eq_true c5
       clear c5
       replace H:=Option.bind_eq_some_iff.mp H
       obtain ⟨t325,A60,H⟩:=H
       replace H:(if t325=0 then (if x12_1=0 then (tree_paths.l0 k1 l0 l0 (l0.length:Int) (wrap64 (x12_1+1))) else (if 0≤(wrap64 (x12_1 - 1)) then (if (wrap64 (x12_1 - 1)) < (l0.length:Int) then ((tree_Order.f k1 (rdOf ByteArray.empty l0 (wrap64 (x12_1 - 1))) (rdOf ByteArray.empty l0 x12_1)).bind fun t327=>(if t327 > 0 then (some 12) else (if t327=0 then (some 9) else ((tree_Within.f (rdOf ByteArray.empty l0 x12_1) (rdOf ByteArray.empty l0 (wrap64 (x12_1 - 1)))).bind fun t329=>(if t329=true then (some 9) else (tree_paths.l0 k1 l0 l0 (l0.length:Int) (wrap64 (x12_1+1)))))))) else (none)) else (none))) else (some t325))=some r:=H
       have A6:=Aside0.mk A60
       clear A60
       by_cases c7:t325=0
       ·rw [if_pos c7] at H
        have c7b0:(t325 == 0)=true:=beq_iff_eq.mpr c7
        have c7b1:(t325 != 0)=false:=bne_eq_false_iff_eq.mpr c7
        clear c7
        by_cases c8:x12_1=0
        ·rw [if_pos c8] at H
         have c8b0:(x12_1 == 0)=true:=beq_iff_eq.mpr c8
         have c8b1:(x12_1 != 0)=false:=bne_eq_false_iff_eq.mpr c8
         clear c8
         have H':=Aside0.mk H
         clear H
         have p324:0≤(x12_1:Int):=of_decide_eq_true (by assumption)
         have q324:x12_1 < (l0.length:Int):=of_decide_eq_true (by assumption)
         obtain ⟨ad324,e324,hx324_0⟩:=Kd.at_string HR0.out x12_1 p324 q324
         cases e324
         replace hx324_0:=(HB.out.cell (World.block_lt_of_cell? w _ hx324_0)).trans hx324_0
         replace p324:=eq_true p324
         replace q324:=eq_true q324
         go_wp2_with (first|((with_reducible refine gate_callee (f:=70) rfl ?_);refine goesL_ (some 18) rfl rfl Tryd.func70 (by kernel_rfl) rfl #[.string (rdOf ByteArray.empty l0 x12_1)] rfl (by (try simp only [List.map_toArray,List.map_cons,List.map_nil]);try rfl) ?_;(with_reducible refine (tree_Path.calls k1 (rdOf ByteArray.empty l0 x12_1) t325 _ A6.out).mono ?_);rintro e w9 ⟨rfl,hb⟩;refine ⟨_,rfl,?_⟩;have n0_:=Aside0.mk (below_step (by repeat (first|(with_reducible first|exact HB.out|apply below_alloc|apply pw_below_drewN|apply below_drew1)|exact HB.out)) hb);clear HB;have HB:=n0_;clear n0_))
         go_roundg k1
         case measure=>have:=HK1.out;omega
         case rel=>exact ⟨(wrap64 (x12_1+1)),(by first|rfl|(simp;done)|(simp [*];done)),H',⟨by have:=HK1.out;omega⟩,⟨by repeat (first|(with_reducible first|exact HB.out|apply below_alloc|apply pw_below_drewN|apply below_drew1)|exact HB.out)⟩⟩
        ·rw [if_neg c8] at H
         have c8b0:(x12_1 == 0)=false:=beq_eq_false_iff_ne.mpr c8
         have c8b1:(x12_1 != 0)=true:=bne_iff_ne.mpr c8
         obtain ⟨ji10,hji10⟩: ∃j_:Int,(wrap64 (x12_1 - 1))=j_:=⟨_,rfl⟩
         replace H:(if 0≤(ji10) then (if (ji10) < (l0.length:Int) then ((tree_Order.f k1 (rdOf ByteArray.empty l0 (ji10)) (rdOf ByteArray.empty l0 x12_1)).bind fun t327=>(if t327 > 0 then (some 12) else (if t327=0 then (some 9) else ((tree_Within.f (rdOf ByteArray.empty l0 x12_1) (rdOf ByteArray.empty l0 (ji10))).bind fun t329=>(if t329=true then (some 9) else (tree_paths.l0 k1 l0 l0 (l0.length:Int) (wrap64 (x12_1+1)))))))) else (none)) else (none))=some r:=by first|(rw [hji10] at H;exact H)|(simp only [hji10] at H ⊢;exact H)
         (try rw [hji10] at A6)
         have hji10w:(IntKind.i64.wrap (x12_1 - 1))=ji10:=(i64_w _).trans hji10
         by_cases c11:0≤(ji10)
         ·rw [if_pos c11] at H
          have c11b0:decide (0≤(ji10))=true:=decide_eq_true c11
          clear c11
          by_cases c12:(ji10) < (l0.length:Int)
          ·rw [if_pos c12] at H
           have c12b0:decide ((ji10) < (l0.length:Int))=true:=decide_eq_true c12
           clear c12
           replace H:=Option.bind_eq_some_iff.mp H
           obtain ⟨t327,A130,H⟩:=H
           replace H:(if t327 > 0 then (some 12) else (if t327=0 then (some 9) else ((tree_Within.f (rdOf ByteArray.empty l0 x12_1) (rdOf ByteArray.empty l0 (ji10))).bind fun t329=>(if t329=true then (some 9) else (tree_paths.l0 k1 l0 l0 (l0.length:Int) (wrap64 (x12_1+1)))))))=some r:=H
           have A13:=Aside0.mk A130
           clear A130
           by_cases c14:t327 > 0
           ·rw [if_pos c14] at H
            have c14b0:decide (0 < t327)=true:=decide_eq_true c14
            clear c14
            obtain rfl:=Option.some.inj H
            have p324:0≤(x12_1:Int):=of_decide_eq_true (by assumption)
            have q324:x12_1 < (l0.length:Int):=of_decide_eq_true (by assumption)
            obtain ⟨ad324,e324,hx324_0⟩:=Kd.at_string HR0.out x12_1 p324 q324
            cases e324
            replace hx324_0:=(HB.out.cell (World.block_lt_of_cell? w _ hx324_0)).trans hx324_0
            replace p324:=eq_true p324
            replace q324:=eq_true q324
            go_wp2_with (first|((with_reducible refine gate_callee (f:=70) rfl ?_);refine goesL_ (some 18) rfl rfl Tryd.func70 (by kernel_rfl) rfl #[.string (rdOf ByteArray.empty l0 x12_1)] rfl (by (try simp only [List.map_toArray,List.map_cons,List.map_nil]);try rfl) ?_;(with_reducible refine (tree_Path.calls k1 (rdOf ByteArray.empty l0 x12_1) t325 _ A6.out).mono ?_);rintro e w15 ⟨rfl,hb⟩;refine ⟨_,rfl,?_⟩;have n0_:=Aside0.mk (below_step (by repeat (first|(with_reducible first|exact HB.out|apply below_alloc|apply pw_below_drewN|apply below_drew1)|exact HB.out)) hb);clear HB;have HB:=n0_;clear n0_;have p326:0≤((ji10):Int):=of_decide_eq_true (by assumption);have q326:(ji10) < (l0.length:Int):=of_decide_eq_true (by assumption);obtain ⟨ad326,e326,hx326_0⟩:=Kd.at_string HR0.out (ji10) p326 q326;obtain rfl:ad324=ad326:=(by injection e326);replace hx326_0:=(HB.out.cell (World.block_lt_of_cell? w _ hx326_0)).trans hx326_0;replace p326:=eq_true p326;replace q326:=eq_true q326)|((with_reducible refine gate_callee (f:=71) rfl ?_);refine goesL_ (some 30) rfl rfl Tryd.func71 (by kernel_rfl) rfl #[.string (rdOf ByteArray.empty l0 (ji10)), .string (rdOf ByteArray.empty l0 x12_1)] rfl (by (try simp only [List.map_toArray,List.map_cons,List.map_nil]);first|done|(simp only [hji10];rfl)|rfl|(simp only [List.length_drop,List.length_take];rfl)) ?_;(with_reducible refine (tree_Order.calls k1 (rdOf ByteArray.empty l0 (ji10)) (rdOf ByteArray.empty l0 x12_1) t327 _ A13.out).mono ?_);rintro e w16 ⟨rfl,hb⟩;refine ⟨_,rfl,?_⟩;have n0_:=Aside0.mk (below_step (by repeat (first|(with_reducible first|exact HB.out|apply below_alloc|apply pw_below_drewN|apply below_drew1)|exact HB.out)) hb);clear HB;have HB:=n0_;clear n0_))
            go_ret
            exact ⟨by first|rfl|(simp [errW_none]<;>rfl)|(simp only [← hji10];first|rfl|(simp [errW_none]<;>rfl))|(simp [*]<;>rfl),by repeat (first|(with_reducible first|exact HB.out|apply below_alloc|apply pw_below_drewN|apply below_drew1)|exact HB.out)⟩
           ·rw [if_neg c14] at H
            have c14b0:decide (0 < t327)=false:=decide_eq_false c14
            clear c14
            by_cases c17:t327=0
            ·rw [if_pos c17] at H
             have c17b0:(t327 == 0)=true:=beq_iff_eq.mpr c17
             have c17b1:(t327 != 0)=false:=bne_eq_false_iff_eq.mpr c17
             clear c17
             obtain rfl:=Option.some.inj H
             have p324:0≤(x12_1:Int):=of_decide_eq_true (by assumption)
             have q324:x12_1 < (l0.length:Int):=of_decide_eq_true (by assumption)
             obtain ⟨ad324,e324,hx324_0⟩:=Kd.at_string HR0.out x12_1 p324 q324
             cases e324
             replace hx324_0:=(HB.out.cell (World.block_lt_of_cell? w _ hx324_0)).trans hx324_0
             replace p324:=eq_true p324
             replace q324:=eq_true q324
             go_wp2_with (first|((with_reducible refine gate_callee (f:=70) rfl ?_);refine goesL_ (some 18) rfl rfl Tryd.func70 (by kernel_rfl) rfl #[.string (rdOf ByteArray.empty l0 x12_1)] rfl (by (try simp only [List.map_toArray,List.map_cons,List.map_nil]);try rfl) ?_;(with_reducible refine (tree_Path.calls k1 (rdOf ByteArray.empty l0 x12_1) t325 _ A6.out).mono ?_);rintro e w18 ⟨rfl,hb⟩;refine ⟨_,rfl,?_⟩;have n0_:=Aside0.mk (below_step (by repeat (first|(with_reducible first|exact HB.out|apply below_alloc|apply pw_below_drewN|apply below_drew1)|exact HB.out)) hb);clear HB;have HB:=n0_;clear n0_;have p326:0≤((ji10):Int):=of_decide_eq_true (by assumption);have q326:(ji10) < (l0.length:Int):=of_decide_eq_true (by assumption);obtain ⟨ad326,e326,hx326_0⟩:=Kd.at_string HR0.out (ji10) p326 q326;obtain rfl:ad324=ad326:=(by injection e326);replace hx326_0:=(HB.out.cell (World.block_lt_of_cell? w _ hx326_0)).trans hx326_0;replace p326:=eq_true p326;replace q326:=eq_true q326)|((with_reducible refine gate_callee (f:=71) rfl ?_);refine goesL_ (some 30) rfl rfl Tryd.func71 (by kernel_rfl) rfl #[.string (rdOf ByteArray.empty l0 (ji10)), .string (rdOf ByteArray.empty l0 x12_1)] rfl (by (try simp only [List.map_toArray,List.map_cons,List.map_nil]);first|done|(simp only [hji10];rfl)|rfl|(simp only [List.length_drop,List.length_take];rfl)) ?_;(with_reducible refine (tree_Order.calls k1 (rdOf ByteArray.empty l0 (ji10)) (rdOf ByteArray.empty l0 x12_1) t327 _ A13.out).mono ?_);rintro e w19 ⟨rfl,hb⟩;refine ⟨_,rfl,?_⟩;have n0_:=Aside0.mk (below_step (by repeat (first|(with_reducible first|exact HB.out|apply below_alloc|apply pw_below_drewN|apply below_drew1)|exact HB.out)) hb);clear HB;have HB:=n0_;clear n0_))
             go_ret
             exact ⟨by first|rfl|(simp [errW_none]<;>rfl)|(simp only [← hji10];first|rfl|(simp [errW_none]<;>rfl))|(simp [*]<;>rfl),by repeat (first|(with_reducible first|exact HB.out|apply below_alloc|apply pw_below_drewN|apply below_drew1)|exact HB.out)⟩
            ·rw [if_neg c17] at H
             have c17b0:(t327 == 0)=false:=beq_eq_false_iff_ne.mpr c17
             have c17b1:(t327 != 0)=true:=bne_iff_ne.mpr c17
             replace H:=Option.bind_eq_some_iff.mp H
             obtain ⟨t329,A200,H⟩:=H
             replace H:(if t329=true then (some 9) else (tree_paths.l0 k1 l0 l0 (l0.length:Int) (wrap64 (x12_1+1))))=some r:=H
             have A20:=Aside0.mk A200
             clear A200
             by_cases c21:t329=true
             ·subst c21
              have H1:(some 9)=some r:=by rw [if_pos rfl] at H;exact H
              clear H
              have H:=H1
              clear H1
              obtain rfl:=Option.some.inj H
              have p324:0≤(x12_1:Int):=of_decide_eq_true (by assumption)
              have q324:x12_1 < (l0.length:Int):=of_decide_eq_true (by assumption)
              obtain ⟨ad324,e324,hx324_0⟩:=Kd.at_string HR0.out x12_1 p324 q324
              cases e324
              replace hx324_0:=(HB.out.cell (World.block_lt_of_cell? w _ hx324_0)).trans hx324_0
              replace p324:=eq_true p324
              replace q324:=eq_true q324
              go_wp2_with (first|((with_reducible refine gate_callee (f:=70) rfl ?_);refine goesL_ (some 18) rfl rfl Tryd.func70 (by kernel_rfl) rfl #[.string (rdOf ByteArray.empty l0 x12_1)] rfl (by (try simp only [List.map_toArray,List.map_cons,List.map_nil]);try rfl) ?_;(with_reducible refine (tree_Path.calls k1 (rdOf ByteArray.empty l0 x12_1) t325 _ A6.out).mono ?_);rintro e w22 ⟨rfl,hb⟩;refine ⟨_,rfl,?_⟩;have n0_:=Aside0.mk (below_step (by repeat (first|(with_reducible first|exact HB.out|apply below_alloc|apply pw_below_drewN|apply below_drew1)|exact HB.out)) hb);clear HB;have HB:=n0_;clear n0_;have p326:0≤((ji10):Int):=of_decide_eq_true (by assumption);have q326:(ji10) < (l0.length:Int):=of_decide_eq_true (by assumption);obtain ⟨ad326,e326,hx326_0⟩:=Kd.at_string HR0.out (ji10) p326 q326;obtain rfl:ad324=ad326:=(by injection e326);replace hx326_0:=(HB.out.cell (World.block_lt_of_cell? w _ hx326_0)).trans hx326_0;replace p326:=eq_true p326;replace q326:=eq_true q326)|((with_reducible refine gate_callee (f:=71) rfl ?_);refine goesL_ (some 30) rfl rfl Tryd.func71 (by kernel_rfl) rfl #[.string (rdOf ByteArray.empty l0 (ji10)), .string (rdOf ByteArray.empty l0 x12_1)] rfl (by (try simp only [List.map_toArray,List.map_cons,List.map_nil]);first|done|(simp only [hji10];rfl)|rfl|(simp only [List.length_drop,List.length_take];rfl)) ?_;(with_reducible refine (tree_Order.calls k1 (rdOf ByteArray.empty l0 (ji10)) (rdOf ByteArray.empty l0 x12_1) t327 _ A13.out).mono ?_);rintro e w23 ⟨rfl,hb⟩;refine ⟨_,rfl,?_⟩;have n0_:=Aside0.mk (below_step (by repeat (first|(with_reducible first|exact HB.out|apply below_alloc|apply pw_below_drewN|apply below_drew1)|exact HB.out)) hb);clear HB;have HB:=n0_;clear n0_;have p328:0≤((ji10):Int):=of_decide_eq_true (by assumption);have q328:(ji10) < (l0.length:Int):=of_decide_eq_true (by assumption);obtain ⟨ad328,e328,hx328_0⟩:=Kd.at_string HR0.out (ji10) p328 q328;obtain rfl:ad324=ad328:=(by injection e328);replace hx328_0:=(HB.out.cell (World.block_lt_of_cell? w _ hx328_0)).trans hx328_0;replace p328:=eq_true p328;replace q328:=eq_true q328)|((with_reducible refine gate_callee (f:=72) rfl ?_);refine goesL_ (some 43) rfl rfl Tryd.func72 (by kernel_rfl) rfl #[.string (rdOf ByteArray.empty l0 x12_1), .string (rdOf ByteArray.empty l0 (ji10))] rfl (by (try simp only [List.map_toArray,List.map_cons,List.map_nil]);first|done|(simp only [hji10];rfl)|rfl|(simp only [List.length_drop,List.length_take];rfl)) ?_;(with_reducible refine (tree_Within.calls (rdOf ByteArray.empty l0 x12_1) (rdOf ByteArray.empty l0 (ji10)) true _ A20.out).mono ?_);rintro e w' ⟨rfl,⟨nd,rfl⟩⟩;refine ⟨_,rfl,?_⟩))
              go_ret
              exact ⟨by first|rfl|(simp [errW_none]<;>rfl)|(simp only [← hji10];first|rfl|(simp [errW_none]<;>rfl))|(simp [*]<;>rfl),by repeat (first|(with_reducible first|exact HB.out|apply below_alloc|apply pw_below_drewN|apply below_drew1)|exact HB.out)⟩
             ·replace c21:=Bool.eq_false_iff.mpr c21
              subst c21
              have H1:(tree_paths.l0 k1 l0 l0 (l0.length:Int) (wrap64 (x12_1+1)))=some r:=by rw [if_neg (show ¬(false=true) by decide)] at H;exact H
              clear H
              have H:=H1
              clear H1
              have H':=Aside0.mk H
              clear H
              have p324:0≤(x12_1:Int):=of_decide_eq_true (by assumption)
              have q324:x12_1 < (l0.length:Int):=of_decide_eq_true (by assumption)
              obtain ⟨ad324,e324,hx324_0⟩:=Kd.at_string HR0.out x12_1 p324 q324
              cases e324
              replace hx324_0:=(HB.out.cell (World.block_lt_of_cell? w _ hx324_0)).trans hx324_0
              replace p324:=eq_true p324
              replace q324:=eq_true q324
              go_wp2_with (first|((with_reducible refine gate_callee (f:=70) rfl ?_);refine goesL_ (some 18) rfl rfl Tryd.func70 (by kernel_rfl) rfl #[.string (rdOf ByteArray.empty l0 x12_1)] rfl (by (try simp only [List.map_toArray,List.map_cons,List.map_nil]);try rfl) ?_;(with_reducible refine (tree_Path.calls k1 (rdOf ByteArray.empty l0 x12_1) t325 _ A6.out).mono ?_);rintro e w24 ⟨rfl,hb⟩;refine ⟨_,rfl,?_⟩;have n0_:=Aside0.mk (below_step (by repeat (first|(with_reducible first|exact HB.out|apply below_alloc|apply pw_below_drewN|apply below_drew1)|exact HB.out)) hb);clear HB;have HB:=n0_;clear n0_;have p326:0≤((ji10):Int):=of_decide_eq_true (by assumption);have q326:(ji10) < (l0.length:Int):=of_decide_eq_true (by assumption);obtain ⟨ad326,e326,hx326_0⟩:=Kd.at_string HR0.out (ji10) p326 q326;obtain rfl:ad324=ad326:=(by injection e326);replace hx326_0:=(HB.out.cell (World.block_lt_of_cell? w _ hx326_0)).trans hx326_0;replace p326:=eq_true p326;replace q326:=eq_true q326)|((with_reducible refine gate_callee (f:=71) rfl ?_);refine goesL_ (some 30) rfl rfl Tryd.func71 (by kernel_rfl) rfl #[.string (rdOf ByteArray.empty l0 (ji10)), .string (rdOf ByteArray.empty l0 x12_1)] rfl (by (try simp only [List.map_toArray,List.map_cons,List.map_nil]);first|done|(simp only [hji10];rfl)|rfl|(simp only [List.length_drop,List.length_take];rfl)) ?_;(with_reducible refine (tree_Order.calls k1 (rdOf ByteArray.empty l0 (ji10)) (rdOf ByteArray.empty l0 x12_1) t327 _ A13.out).mono ?_);rintro e w25 ⟨rfl,hb⟩;refine ⟨_,rfl,?_⟩;have n0_:=Aside0.mk (below_step (by repeat (first|(with_reducible first|exact HB.out|apply below_alloc|apply pw_below_drewN|apply below_drew1)|exact HB.out)) hb);clear HB;have HB:=n0_;clear n0_;have p328:0≤((ji10):Int):=of_decide_eq_true (by assumption);have q328:(ji10) < (l0.length:Int):=of_decide_eq_true (by assumption);obtain ⟨ad328,e328,hx328_0⟩:=Kd.at_string HR0.out (ji10) p328 q328;obtain rfl:ad324=ad328:=(by injection e328);replace hx328_0:=(HB.out.cell (World.block_lt_of_cell? w _ hx328_0)).trans hx328_0;replace p328:=eq_true p328;replace q328:=eq_true q328)|((with_reducible refine gate_callee (f:=72) rfl ?_);refine goesL_ (some 43) rfl rfl Tryd.func72 (by kernel_rfl) rfl #[.string (rdOf ByteArray.empty l0 x12_1), .string (rdOf ByteArray.empty l0 (ji10))] rfl (by (try simp only [List.map_toArray,List.map_cons,List.map_nil]);first|done|(simp only [hji10];rfl)|rfl|(simp only [List.length_drop,List.length_take];rfl)) ?_;(with_reducible refine (tree_Within.calls (rdOf ByteArray.empty l0 x12_1) (rdOf ByteArray.empty l0 (ji10)) false _ A20.out).mono ?_);rintro e w' ⟨rfl,⟨nd,rfl⟩⟩;refine ⟨_,rfl,?_⟩))
              go_roundg k1
              case measure=>have:=HK1.out;omega
              case rel=>exact ⟨(wrap64 (x12_1+1)),(by first|rfl|(simp;done)|(simp [*];done)),H',⟨by have:=HK1.out;omega⟩,⟨by repeat (first|(with_reducible first|exact HB.out|apply below_alloc|apply pw_below_drewN|apply below_drew1)|exact HB.out)⟩⟩
          ·rw [if_neg c12] at H
           exact absurd H (by simp)
         ·rw [if_neg c11] at H
          exact absurd H (by simp)
       ·rw [if_neg c7] at H
        have c7b0:(t325 == 0)=false:=beq_eq_false_iff_ne.mpr c7
        have c7b1:(t325 != 0)=true:=bne_iff_ne.mpr c7
        obtain rfl:=Option.some.inj H
        have p324:0≤(x12_1:Int):=of_decide_eq_true (by assumption)
        have q324:x12_1 < (l0.length:Int):=of_decide_eq_true (by assumption)
        obtain ⟨ad324,e324,hx324_0⟩:=Kd.at_string HR0.out x12_1 p324 q324
        cases e324
        replace hx324_0:=(HB.out.cell (World.block_lt_of_cell? w _ hx324_0)).trans hx324_0
        replace p324:=eq_true p324
        replace q324:=eq_true q324
        go_wp2_with (first|((with_reducible refine gate_callee (f:=70) rfl ?_);refine goesL_ (some 18) rfl rfl Tryd.func70 (by kernel_rfl) rfl #[.string (rdOf ByteArray.empty l0 x12_1)] rfl (by (try simp only [List.map_toArray,List.map_cons,List.map_nil]);try rfl) ?_;(with_reducible refine (tree_Path.calls k1 (rdOf ByteArray.empty l0 x12_1) t325 _ A6.out).mono ?_);rintro e w26 ⟨rfl,hb⟩;refine ⟨_,rfl,?_⟩;have n0_:=Aside0.mk (below_step (by repeat (first|(with_reducible first|exact HB.out|apply below_alloc|apply pw_below_drewN|apply below_drew1)|exact HB.out)) hb);clear HB;have HB:=n0_;clear n0_))
        go_ret
        exact ⟨by first|rfl|(simp [errW_none]<;>rfl)|(simp [*]<;>rfl),by repeat (first|(with_reducible first|exact HB.out|apply below_alloc|apply pw_below_drewN|apply below_drew1)|exact HB.out)⟩
      ·rw [if_neg c5] at H
       exact absurd H (by simp)
     ·rw [if_neg c4] at H
      exact absurd H (by simp)
    ·rw [if_neg c3] at H
     have c3b0:decide (x12_1 < (l0.length:Int))=false:=decide_eq_false c3
     clear c3
     obtain rfl:=Option.some.inj H
     go_wp2
     go_ret
     exact ⟨by first|rfl|(simp [errW_none]<;>rfl)|(simp [*]<;>rfl),by repeat (first|(with_reducible first|exact HB.out|apply below_alloc|apply pw_below_drewN|apply below_drew1)|exact HB.out)⟩
end Go.Proofs.YthejnffhfmdpnaaDoor.Q

end

section
namespace Go.Proofs.YthejnffhfmdpnaaDoor.Q
open Go.RowKit Go.Proofs.YthejnffhfmdpnaaDoorW.PrintWords Go.Proofs.YthejnffhfmdpnaaDoorW.PrintLast Go.Proofs.YthejnffhfmdpnaaDoorW.PrintMore
attribute [local go_sem] min2_int min_two
set_option linter.unusedVariables false
set_option linter.unusedSimpArgs false
mutual
def barqueref09_Order.l0:Nat→ByteArray→ByteArray→Int→Option (Int)
 |0,_,_,_=>none
 |k+1,x0,x1,x5=>if x5 < (x0.size:Int) then (barqueref09_Order.j1 k x0 x1 x5 true) else (barqueref09_Order.j1 k x0 x1 x5 (decide (x5 < (x1.size:Int))))
def barqueref09_Order.j1:Nat→ByteArray→ByteArray→Int→Bool→Option (Int)
 |0,_,_,_,_=>none
 |k+1,x0,x1,x5,x17=>if x17=true then (if x5 < (x0.size:Int) then (if 0≤x5 then (if (bt x0 x5)=47 then (barqueref09_Order.j2 k x0 x1 x5 0 (-1)) else (barqueref09_Order.j2 k x0 x1 x5 (wrap64 ((wrap64 (bt x0 x5))+1)) (-1))) else (none)) else (barqueref09_Order.j2 k x0 x1 x5 (-1) (-1))) else (some 0)
def barqueref09_Order.j2:Nat→ByteArray→ByteArray→Int→Int→Int→Option (Int)
 |0,_,_,_,_,_=>none
 |k+1,x0,x1,x5,x6,x7=>if x5 < (x1.size:Int) then (if 0≤x5 then (if (bt x1 x5)=47 then (barqueref09_Order.j3 k x0 x1 x5 x6 0) else (barqueref09_Order.j3 k x0 x1 x5 x6 (wrap64 ((wrap64 (bt x1 x5))+1)))) else (none)) else (barqueref09_Order.j3 k x0 x1 x5 x6 x7)
def barqueref09_Order.j3:Nat→ByteArray→ByteArray→Int→Int→Int→Option (Int)
 |0,_,_,_,_,_=>none
 |k+1,x0,x1,x5,x6,x7=>if x6 < x7 then (some (-1)) else (if x6 > x7 then (some 1) else (barqueref09_Order.l0 k x0 x1 (wrap64 (x5+1))))
end
def barqueref09_Order.f (k:Nat) (a0:ByteArray) (a1:ByteArray):Option (Int):=barqueref09_Order.l0 k a0 a1 0
set_option maxHeartbeats 8000000 in
set_option maxRecDepth 100000 in
theorem barqueref09_Order.calls (k:Nat) (a0:ByteArray) (a1:ByteArray) (r:Int) (w:World) (h:barqueref09_Order.f k a0 a1=some r):
  Calls Tryd.prog 65 #[.string a0, .string a1] w fun e w'=>e= .returned (.int .i64 r)∧Drawn0 w w':=by
 have H:(barqueref09_Order.l0 k a0 a1 0)=some r:=h
 clear h
 have H':=Aside0.mk H
 clear H
 go_enter Tryd.func65,Tryd.ntmps65
 go_wp2
 go_loopg [5] k (fun kq v5 w'=> ∃(x5_1:Int),v5= .int .i64 x5_1∧Aside0 (barqueref09_Order.l0 kq a0 a1 x5_1=some r)∧Aside0 (kq≤k)∧Drawn0 w w')
 case atStart=>exact ⟨(0),(by first|rfl|(simp;done)|(simp [*];done)),H',⟨Nat.le_refl _⟩,by repeat (first|exact Drawn0.refl _|apply Drawn0.step)⟩
 case round=>
  clear H'
  obtain ⟨x5_1,rfl,HA,HK1,⟨m1,rfl⟩⟩:=hrel
  cases gk with
  |zero=>exact absurd HA.out (by simp [barqueref09_Order.l0])
  |succ k1=>
   have H:=HA.out
   clear HA
   simp only [barqueref09_Order.l0] at H
   have HC3:=Aside0.mk H
   clear H
   go_upto_region 2 with (fail)
   go_cut [17] (fun v17 wc=> ∃(kq:Nat) (x17_2:Bool),v17= .bool x17_2∧Aside0 (barqueref09_Order.j1 kq a0 a1 x5_1 x17_2=some r)∧Aside0 (kq≤k1)∧Drawn0 w wc)
   case first=>
    have H:=HC3.out
    clear HC3
    by_cases c4:x5_1 < (a0.size:Int)
    ·rw [if_pos c4] at H
     have c4b0:decide (x5_1 < (a0.size:Int))=true:=decide_eq_true c4
     clear c4
     (first|rw [c4b0]|(simp only [i64_w];rw [c4b0])|skip)
     have H':=Aside0.mk H
     clear H
     go_wp2
     go_meet
     case rel=>exact ⟨_,(true),(by first|rfl|(simp;done)|(simp [*];done)),H',⟨by have:=HK1.out;first|omega|exact Nat.le_refl _⟩,by repeat (first|exact Drawn0.refl _|apply Drawn0.step)⟩
    ·rw [if_neg c4] at H
     have c4b0:decide (x5_1 < (a0.size:Int))=false:=decide_eq_false c4
     clear c4
     (first|rw [c4b0]|(simp only [i64_w];rw [c4b0])|skip)
     have H':=Aside0.mk H
     clear H
     go_wp2
     go_meet
     case rel=>exact ⟨_,(decide (x5_1 < (a1.size:Int))),(by first|rfl|(simp;done)|(simp [*];done)),H',⟨by have:=HK1.out;first|omega|exact Nat.le_refl _⟩,by repeat (first|exact Drawn0.refl _|apply Drawn0.step)⟩
   case rest=>
    clear HC3
    obtain ⟨kq,x17_2,rfl,HA,HJ2,⟨mc2,rfl⟩⟩:=hcut
    cases kq with
    |zero=>exact absurd HA.out (by simp [barqueref09_Order.j1])
    |succ kj2=>
     have H:=HA.out
     clear HA
     simp only [barqueref09_Order.j1] at H
     by_cases c5:x17_2=true
     ·subst c5
      have H1:(if x5_1 < (a0.size:Int) then (if 0≤x5_1 then (if (bt a0 x5_1)=47 then (barqueref09_Order.j2 kj2 a0 a1 x5_1 0 (-1)) else (barqueref09_Order.j2 kj2 a0 a1 x5_1 (wrap64 ((wrap64 (bt a0 x5_1))+1)) (-1))) else (none)) else (barqueref09_Order.j2 kj2 a0 a1 x5_1 (-1) (-1)))=some r:=by rw [if_pos rfl] at H;exact H
      clear H
      have H:=H1
      clear H1
      have HC6:=Aside0.mk H
      clear H
      go_upto_if 23 with (fail)
      go_cut [6] (fun v6 wc=> ∃(kq:Nat) (x6_5:Int),v6= .int .i64 x6_5∧Aside0 (barqueref09_Order.j2 kq a0 a1 x5_1 x6_5 (-1)=some r)∧Aside0 (kq≤kj2)∧Drawn0 w wc)
      case first=>
       have H:=HC6.out
       clear HC6
       by_cases c7:x5_1 < (a0.size:Int)
       ·rw [if_pos c7] at H
        have c7b0:decide (x5_1 < (a0.size:Int))=true:=decide_eq_true c7
        clear c7
        (first|rw [c7b0]|(simp only [i64_w];rw [c7b0])|skip)
        by_cases c8:0≤x5_1
        ·rw [if_pos c8] at H
         have c8b0:decide (0≤x5_1)=true:=decide_eq_true c8
         clear c8
         by_cases c11:(bt a0 x5_1)=47
         ·rw [if_pos c11] at H
          have c11b0:((bt a0 x5_1) == 47)=true:=beq_iff_eq.mpr c11
          have c11b1:((bt a0 x5_1) != 47)=false:=bne_eq_false_iff_eq.mpr c11
          clear c11
          have H':=Aside0.mk H
          clear H
          have p9:0≤(x5_1:Int):=of_decide_eq_true (by assumption)
          have q9:x5_1 < (a0.size:Int):=of_decide_eq_true (by assumption)
          have hx9:=bt_at a0 x5_1
          replace p9:=eq_true p9
          replace q9:=eq_true q9
          have p10:0≤(x5_1:Int):=of_decide_eq_true (by assumption)
          have q10:x5_1 < (a0.size:Int):=of_decide_eq_true (by assumption)
          have hx10:=bt_at a0 x5_1
          replace p10:=eq_true p10
          replace q10:=eq_true q10
          go_wp2
          go_meet
          case rel=>exact ⟨_,(0),(by first|rfl|(simp;done)|(simp [*];done)),H',⟨by have:=HK1.out;have:=HJ2.out;first|omega|exact Nat.le_refl _⟩,by repeat (first|exact Drawn0.refl _|apply Drawn0.step)⟩
         ·rw [if_neg c11] at H
          have c11b0:((bt a0 x5_1) == 47)=false:=beq_eq_false_iff_ne.mpr c11
          have c11b1:((bt a0 x5_1) != 47)=true:=bne_iff_ne.mpr c11
          have H':=Aside0.mk H
          clear H
          have p9:0≤(x5_1:Int):=of_decide_eq_true (by assumption)
          have q9:x5_1 < (a0.size:Int):=of_decide_eq_true (by assumption)
          have hx9:=bt_at a0 x5_1
          replace p9:=eq_true p9
          replace q9:=eq_true q9
          have p10:0≤(x5_1:Int):=of_decide_eq_true (by assumption)
          have q10:x5_1 < (a0.size:Int):=of_decide_eq_true (by assumption)
          have hx10:=bt_at a0 x5_1
          replace p10:=eq_true p10
          replace q10:=eq_true q10
          go_wp2
          go_meet
          case rel=>exact ⟨_,(wrap64 ((wrap64 (bt a0 x5_1))+1)),(by first|rfl|(simp;done)|(simp [*];done)),H',⟨by have:=HK1.out;have:=HJ2.out;first|omega|exact Nat.le_refl _⟩,by repeat (first|exact Drawn0.refl _|apply Drawn0.step)⟩
        ·rw [if_neg c8] at H
         exact absurd H (by simp)
       ·rw [if_neg c7] at H
        have c7b0:decide (x5_1 < (a0.size:Int))=false:=decide_eq_false c7
        clear c7
        (first|rw [c7b0]|(simp only [i64_w];rw [c7b0])|skip)
        have H':=Aside0.mk H
        clear H
        go_wp2
        go_meet
        case rel=>exact ⟨_,((-1)),(by first|rfl|(simp;done)|(simp [*];done)),H',⟨by have:=HK1.out;have:=HJ2.out;first|omega|exact Nat.le_refl _⟩,by repeat (first|exact Drawn0.refl _|apply Drawn0.step)⟩
      case rest=>
       clear HC6
       obtain ⟨kq,x6_5,rfl,HA,HJ5,⟨mc5,rfl⟩⟩:=hcut
       cases kq with
       |zero=>exact absurd HA.out (by simp [barqueref09_Order.j2])
       |succ kj5=>
        have H:=HA.out
        clear HA
        simp only [barqueref09_Order.j2] at H
        have HC12:=Aside0.mk H
        clear H
        go_upto_if 36 with (fail)
        go_cut [7] (fun v7 wc=> ∃(kq:Nat) (x7_11:Int),v7= .int .i64 x7_11∧Aside0 (barqueref09_Order.j3 kq a0 a1 x5_1 x6_5 x7_11=some r)∧Aside0 (kq≤kj5)∧Drawn0 w wc)
        case first=>
         have H:=HC12.out
         clear HC12
         by_cases c13:x5_1 < (a1.size:Int)
         ·rw [if_pos c13] at H
          have c13b0:decide (x5_1 < (a1.size:Int))=true:=decide_eq_true c13
          clear c13
          (first|rw [c13b0]|(simp only [i64_w];rw [c13b0])|skip)
          by_cases c14:0≤x5_1
          ·rw [if_pos c14] at H
           have c14b0:decide (0≤x5_1)=true:=decide_eq_true c14
           clear c14
           by_cases c17:(bt a1 x5_1)=47
           ·rw [if_pos c17] at H
            have c17b0:((bt a1 x5_1) == 47)=true:=beq_iff_eq.mpr c17
            have c17b1:((bt a1 x5_1) != 47)=false:=bne_eq_false_iff_eq.mpr c17
            clear c17
            have H':=Aside0.mk H
            clear H
            have p15:0≤(x5_1:Int):=of_decide_eq_true (by assumption)
            have q15:x5_1 < (a1.size:Int):=of_decide_eq_true (by assumption)
            have hx15:=bt_at a1 x5_1
            replace p15:=eq_true p15
            replace q15:=eq_true q15
            have p16:0≤(x5_1:Int):=of_decide_eq_true (by assumption)
            have q16:x5_1 < (a1.size:Int):=of_decide_eq_true (by assumption)
            have hx16:=bt_at a1 x5_1
            replace p16:=eq_true p16
            replace q16:=eq_true q16
            go_wp2
            go_meet
            case rel=>exact ⟨_,(0),(by first|rfl|(simp;done)|(simp [*];done)),H',⟨by have:=HK1.out;have:=HJ2.out;have:=HJ5.out;first|omega|exact Nat.le_refl _⟩,by repeat (first|exact Drawn0.refl _|apply Drawn0.step)⟩
           ·rw [if_neg c17] at H
            have c17b0:((bt a1 x5_1) == 47)=false:=beq_eq_false_iff_ne.mpr c17
            have c17b1:((bt a1 x5_1) != 47)=true:=bne_iff_ne.mpr c17
            have H':=Aside0.mk H
            clear H
            have p15:0≤(x5_1:Int):=of_decide_eq_true (by assumption)
            have q15:x5_1 < (a1.size:Int):=of_decide_eq_true (by assumption)
            have hx15:=bt_at a1 x5_1
            replace p15:=eq_true p15
            replace q15:=eq_true q15
            have p16:0≤(x5_1:Int):=of_decide_eq_true (by assumption)
            have q16:x5_1 < (a1.size:Int):=of_decide_eq_true (by assumption)
            have hx16:=bt_at a1 x5_1
            replace p16:=eq_true p16
            replace q16:=eq_true q16
            go_wp2
            go_meet
            case rel=>exact ⟨_,(wrap64 ((wrap64 (bt a1 x5_1))+1)),(by first|rfl|(simp;done)|(simp [*];done)),H',⟨by have:=HK1.out;have:=HJ2.out;have:=HJ5.out;first|omega|exact Nat.le_refl _⟩,by repeat (first|exact Drawn0.refl _|apply Drawn0.step)⟩
          ·rw [if_neg c14] at H
           exact absurd H (by simp)
         ·rw [if_neg c13] at H
          have c13b0:decide (x5_1 < (a1.size:Int))=false:=decide_eq_false c13
          clear c13
          (first|rw [c13b0]|(simp only [i64_w];rw [c13b0])|skip)
          have H':=Aside0.mk H
          clear H
          go_wp2
          go_meet
          case rel=>exact ⟨_,((-1)),(by first|rfl|(simp;done)|(simp [*];done)),H',⟨by have:=HK1.out;have:=HJ2.out;have:=HJ5.out;first|omega|exact Nat.le_refl _⟩,by repeat (first|exact Drawn0.refl _|apply Drawn0.step)⟩
        case rest=>
         clear HC12
         obtain ⟨kq,x7_11,rfl,HA,HJ11,⟨mc11,rfl⟩⟩:=hcut
         cases kq with
         |zero=>exact absurd HA.out (by simp [barqueref09_Order.j3])
         |succ kj11=>
          have H:=HA.out
          clear HA
          simp only [barqueref09_Order.j3] at H
          by_cases c18:x6_5 < x7_11
          ·rw [if_pos c18] at H
           have c18b0:decide (x6_5 < x7_11)=true:=decide_eq_true c18
           clear c18
           obtain rfl:=Option.some.inj H
           go_wp2
           go_ret
           exact ⟨by first|rfl|(simp;done)|(simp [*];done),by repeat (first|exact Drawn0.refl _|apply Drawn0.step)⟩
          ·rw [if_neg c18] at H
           have c18b0:decide (x6_5 < x7_11)=false:=decide_eq_false c18
           clear c18
           by_cases c19:x6_5 > x7_11
           ·rw [if_pos c19] at H
            have c19b0:decide (x7_11 < x6_5)=true:=decide_eq_true c19
            clear c19
            obtain rfl:=Option.some.inj H
            go_wp2
            go_ret
            exact ⟨by first|rfl|(simp;done)|(simp [*];done),by repeat (first|exact Drawn0.refl _|apply Drawn0.step)⟩
           ·rw [if_neg c19] at H
            have c19b0:decide (x7_11 < x6_5)=false:=decide_eq_false c19
            clear c19
            have H':=Aside0.mk H
            clear H
            go_wp2
            go_roundg kj11
            case measure=>have:=HK1.out;have:=HJ2.out;have:=HJ5.out;have:=HJ11.out;omega
            case rel=>exact ⟨(wrap64 (x5_1+1)),(by first|rfl|(simp;done)|(simp [*];done)),H',⟨by have:=HK1.out;have:=HJ2.out;have:=HJ5.out;have:=HJ11.out;omega⟩,by repeat (first|exact Drawn0.refl _|apply Drawn0.step)⟩
     ·replace c5:=Bool.eq_false_iff.mpr c5
      subst c5
      have H1:(some 0)=some r:=by rw [if_neg (show ¬(false=true) by decide)] at H;exact H
      clear H
      have H:=H1
      clear H1
      obtain rfl:=Option.some.inj H
      go_wp2
      go_ret
      exact ⟨by first|rfl|(simp;done)|(simp [*];done),by repeat (first|exact Drawn0.refl _|apply Drawn0.step)⟩
end Go.Proofs.YthejnffhfmdpnaaDoor.Q

end

section
namespace Go.Proofs.YthejnffhfmdpnaaDoor.Q
open Go.RowKit Go.Proofs.YthejnffhfmdpnaaDoorW.PrintWords Go.Proofs.YthejnffhfmdpnaaDoorW.PrintLast Go.Proofs.YthejnffhfmdpnaaDoorW.PrintMore
attribute [local go_sem] min2_int min_two
set_option linter.unusedVariables false
set_option linter.unusedSimpArgs false
def barqueref09_Within.f (a0:ByteArray) (a1:ByteArray):Option (Bool):=if (a0.size:Int) > (a1.size:Int) then (if 0≤(wrap64 ((a1.size:Int)+1)) then (if (wrap64 ((a1.size:Int)+1))≤(a0.size:Int) then (if a1.size+1≤9223372036854775807 then (some ((a0.extract 0 ((wrap64 ((a1.size:Int)+1)):Int).toNat).toList == (a1++(⟨#[47]⟩:ByteArray)).toList)) else (none)) else (none)) else (none)) else (some false)
set_option maxHeartbeats 8000000 in
set_option maxRecDepth 100000 in
theorem barqueref09_Within.calls (a0:ByteArray) (a1:ByteArray) (r:Bool) (w:World) (h:barqueref09_Within.f a0 a1=some r):
  Calls Tryd.prog 66 #[.string a0, .string a1] w fun e w'=>e= .returned (.bool r)∧Drawn0 w w':=by
 have H:(if (a0.size:Int) > (a1.size:Int) then (if 0≤(wrap64 ((a1.size:Int)+1)) then (if (wrap64 ((a1.size:Int)+1))≤(a0.size:Int) then (if a1.size+1≤9223372036854775807 then (some ((a0.extract 0 ((wrap64 ((a1.size:Int)+1)):Int).toNat).toList == (a1++(⟨#[47]⟩:ByteArray)).toList)) else (none)) else (none)) else (none)) else (some false))=some r:=h
 clear h
 by_cases c3:(a0.size:Int) > (a1.size:Int)
 ·rw [if_pos c3] at H
  have c3b0:decide ((a1.size:Int) < (a0.size:Int))=true:=decide_eq_true c3
  have c3b1:decide (a1.size < a0.size)=true:=decide_eq_true (Int.ofNat_lt.mp c3)
  clear c3
  obtain ⟨ji4,hji4⟩: ∃j_:Int,(wrap64 ((a1.size:Int)+1))=j_:=⟨_,rfl⟩
  replace H:(if 0≤(ji4) then (if (ji4)≤(a0.size:Int) then (if a1.size+1≤9223372036854775807 then (some ((a0.extract 0 ((ji4):Int).toNat).toList == (a1++(⟨#[47]⟩:ByteArray)).toList)) else (none)) else (none)) else (none))=some r:=by first|(rw [hji4] at H;exact H)|(simp only [hji4] at H ⊢;exact H)
  have hji4w:(IntKind.i64.wrap ((a1.size:Int)+1))=ji4:=(i64_w _).trans hji4
  by_cases c5:0≤(ji4)
  ·rw [if_pos c5] at H
   have c5b0:=eq_true c5
   have c5b1:decide (0≤(ji4))=true:=decide_eq_true c5
   clear c5
   by_cases c6:(ji4)≤(a0.size:Int)
   ·rw [if_pos c6] at H
    have c6b0:=eq_true c6
    have c6b1:decide ((ji4)≤(a0.size:Int))=true:=decide_eq_true c6
    clear c6
    by_cases c7:a1.size+1≤9223372036854775807
    ·rw [if_pos c7] at H
     have c7b0:=eq_true c7
     have c7b1:decide (a1.size+1≤9223372036854775807)=true:=decide_eq_true c7
     try have c7b2:(9223372036854775807 < a1.size+1)=False:=eq_false (Nat.not_lt.2 c7)
     obtain rfl:=Option.some.inj H
     go_enter Tryd.func66,Tryd.ntmps66
     go_wp2
     go_ret
     exact ⟨by first|rfl|(simp;done)|(simp only [← hji4]<;>(first|rfl|simp))|(simp [*];done),by repeat (first|exact Drawn0.refl _|apply Drawn0.step)⟩
    ·rw [if_neg c7] at H
     exact absurd H (by simp)
   ·rw [if_neg c6] at H
    exact absurd H (by simp)
  ·rw [if_neg c5] at H
   exact absurd H (by simp)
 ·rw [if_neg c3] at H
  have c3b0:decide ((a1.size:Int) < (a0.size:Int))=false:=decide_eq_false c3
  have c3b1:decide (a1.size < a0.size)=false:=decide_eq_false (fun h=>c3 (Int.ofNat_lt.mpr h))
  clear c3
  obtain rfl:=Option.some.inj H
  go_enter Tryd.func66,Tryd.ntmps66
  go_wp2
  go_ret
  exact ⟨by first|rfl|(simp;done)|(simp [*];done),by repeat (first|exact Drawn0.refl _|apply Drawn0.step)⟩
end Go.Proofs.YthejnffhfmdpnaaDoor.Q

end
