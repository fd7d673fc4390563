/- Texts of this claim, in one file. -/
import Derived.Lib.BufferKept
import Derived.Test.YthejnffhfmdpnaaDoorNC
section
namespace Go.Proofs.YthejnffhfmdpnaaDoor.Q
open Go.RowKit Go.Proofs.YthejnffhfmdpnaaDoorW.PrintWords Go.Proofs.YthejnffhfmdpnaaDoorW.PrintLast Go.Proofs.YthejnffhfmdpnaaDoorW.PrintMore
attribute [local go_sem] min2_int min_two
set_option linter.unusedVariables false
set_option linter.unusedSimpArgs false
mutual
def barqueref09_together.l0:Nat→List ByteArray→Int→Option (Int)
 |0,_,_=>none
 |k+1,x0,x3=>if x3 < (x0.length:Int) then (if 0≤x3 then ((barqueref09_Path.f k (rdOf ByteArray.empty x0 x3)).bind fun t195=>(if t195=0 then (if x3 > 0 then (if 0≤(wrap64 (x3 - 1)) then (if (wrap64 (x3 - 1)) < (x0.length:Int) then ((barqueref09_Order.f k (rdOf ByteArray.empty x0 x3) (rdOf ByteArray.empty x0 (wrap64 (x3 - 1)))).bind fun t198=>(barqueref09_together.j1 k x0 x3 (decide (t198 < 0)))) else (none)) else (none)) else (barqueref09_together.j1 k x0 x3 false)) else (some t195))) else (none)) else (some 0)
def barqueref09_together.j1:Nat→List ByteArray→Int→Bool→Option (Int)
 |0,_,_,_=>none
 |k+1,x0,x3,x36=>if x36=true then (some 12) else (if x3 > 0 then (if 0≤x3 then (if x3 < (x0.length:Int) then (if 0≤(wrap64 (x3 - 1)) then (if (wrap64 (x3 - 1)) < (x0.length:Int) then (if (rdOf ByteArray.empty x0 x3).toList=(rdOf ByteArray.empty x0 (wrap64 (x3 - 1))).toList then (some 9) else ((barqueref09_Within.f (rdOf ByteArray.empty x0 x3) (rdOf ByteArray.empty x0 (wrap64 (x3 - 1)))).bind fun t203=>(if t203=true then (some 9) else (barqueref09_together.l0 k x0 (wrap64 (x3+1)))))) else (none)) else (none)) else (none)) else (none)) else (barqueref09_together.l0 k x0 (wrap64 (x3+1))))
end
def barqueref09_together.f (k:Nat) (l0:List ByteArray):Option (Int):=if (l0.length:Int) > 256 then (some 7) else (barqueref09_together.l0 k l0 0)
set_option maxHeartbeats 8000000 in
set_option maxRecDepth 100000 in
theorem barqueref09_together.calls (k:Nat) (A0:Option Addr) (c0:Nat) (l0:List ByteArray) (r:Int) (w:World) (hr0:Kd.C Kd.string w A0 l0.length l0) (hc0:l0.length≤c0) (h:barqueref09_together.f k l0=some r):
  Calls Tryd.prog 57 #[.slice A0 l0.length c0] w fun e w'=>e= .returned (.int .i64 r)∧Below w.heap.size w w':=by
 have HR0:=Aside0.mk hr0
 have HC0:=Aside0.mk hc0
 clear hr0 hc0
 have HB:=Aside0.mk (Below.refl w.heap.size w)
 have H:(if (l0.length:Int) > 256 then (some 7) else (barqueref09_together.l0 k l0 0))=some r:=h
 clear h
 by_cases c2:(l0.length:Int) > 256
 ·rw [if_pos c2] at H
  have c2b0:decide (256 < (l0.length:Int))=true:=decide_eq_true c2
  have c2b1:decide (256 < l0.length)=true:=decide_eq_true (by omega)
  clear c2
  obtain rfl:=Option.some.inj H
  go_enter Tryd.func57,Tryd.ntmps57
  go_wp2
  repeat (go_quiet (fail);try go_wp2)
  go_ret
  exact ⟨by first|rfl|(simp [errW_none]<;>rfl)|(simp [*]<;>rfl),by repeat (first|(with_reducible first|exact HB.out|apply below_alloc|apply pw_below_drewN|apply below_drew1)|exact HB.out)⟩
 ·rw [if_neg c2] at H
  have c2b0:decide (256 < (l0.length:Int))=false:=decide_eq_false c2
  have c2b1:decide (256 < l0.length)=false:=decide_eq_false (by omega)
  clear c2
  have H':=Aside0.mk H
  clear H
  go_enter Tryd.func57,Tryd.ntmps57
  go_wp2
  repeat (go_quiet (fail);try go_wp2)
  go_loopg [3] k (fun kq v3 w'=> ∃(x3_1:Int),v3= .int .i64 x3_1∧Aside0 (barqueref09_together.l0 kq l0 x3_1=some r)∧Aside0 (kq≤k)∧Aside0 (Below w.heap.size w w'))
  case atStart=>exact ⟨(0),(by first|rfl|(simp;done)|(simp [*];done)),H',⟨Nat.le_refl _⟩,⟨by repeat (first|(with_reducible first|exact HB.out|apply below_alloc|apply pw_below_drewN|apply below_drew1)|exact HB.out)⟩⟩
  case round=>
   clear H'
   obtain ⟨x3_1,rfl,HA,HK1,HB⟩:=hrel
   cases gk with
   |zero=>exact absurd HA.out (by simp [barqueref09_together.l0])
   |succ k1=>
    have H:=HA.out
    clear HA
    simp only [barqueref09_together.l0] at H
    by_cases c3:x3_1 < (l0.length:Int)
    ·rw [if_pos c3] at H
     have c3b0:decide (x3_1 < (l0.length:Int))=true:=decide_eq_true c3
     clear c3
     by_cases c4:0≤x3_1
     ·rw [if_pos c4] at H
      have c4b0:decide (0≤x3_1)=true:=decide_eq_true c4
      clear c4
      replace H:=Option.bind_eq_some_iff.mp H
      obtain ⟨t195,A50,H⟩:=H
      replace H:(if t195=0 then (if x3_1 > 0 then (if 0≤(wrap64 (x3_1 - 1)) then (if (wrap64 (x3_1 - 1)) < (l0.length:Int) then ((barqueref09_Order.f k1 (rdOf ByteArray.empty l0 x3_1) (rdOf ByteArray.empty l0 (wrap64 (x3_1 - 1)))).bind fun t198=>(barqueref09_together.j1 k1 l0 x3_1 (decide (t198 < 0)))) else (none)) else (none)) else (barqueref09_together.j1 k1 l0 x3_1 false)) else (some t195))=some r:=H
      have A5:=Aside0.mk A50
      clear A50
      by_cases c6:t195=0
      ·rw [if_pos c6] at H
       have c6b0:(t195 == 0)=true:=beq_iff_eq.mpr c6
       have c6b1:(t195 != 0)=false:=bne_eq_false_iff_eq.mpr c6
       clear c6
       have HC7:=Aside0.mk H
       clear H
       have p194:0≤(x3_1:Int):=of_decide_eq_true (by assumption)
       have q194:x3_1 < (l0.length:Int):=of_decide_eq_true (by assumption)
       obtain ⟨ad194,e194,hx194_0⟩:=Kd.at_string HR0.out x3_1 p194 q194
       cases e194
       replace hx194_0:=(HB.out.cell (World.block_lt_of_cell? w _ hx194_0)).trans hx194_0
       replace p194:=eq_true p194
       replace q194:=eq_true q194
       go_upto_region 9 with (first|(go_at_call 64;(with_reducible refine (barqueref09_Path.calls k1 (rdOf ByteArray.empty l0 x3_1) t195 _ A5.out).mono ?_);rintro e w8 ⟨rfl,hb⟩;have n0_:=Aside0.mk (below_step (by repeat (first|(with_reducible first|exact HB.out|apply below_alloc|apply pw_below_drewN|apply below_drew1)|exact HB.out)) hb);clear HB;have HB:=n0_;clear n0_))
       repeat (go_quiet (first|(go_at_call 64;(with_reducible refine (barqueref09_Path.calls k1 (rdOf ByteArray.empty l0 x3_1) t195 _ A5.out).mono ?_);rintro e w8 ⟨rfl,hb⟩;have n0_:=Aside0.mk (below_step (by repeat (first|(with_reducible first|exact HB.out|apply below_alloc|apply pw_below_drewN|apply below_drew1)|exact HB.out)) hb);clear HB;have HB:=n0_;clear n0_));go_upto_region 9 with (first|(go_at_call 64;(with_reducible refine (barqueref09_Path.calls k1 (rdOf ByteArray.empty l0 x3_1) t195 _ A5.out).mono ?_);rintro e w8 ⟨rfl,hb⟩;have n0_:=Aside0.mk (below_step (by repeat (first|(with_reducible first|exact HB.out|apply below_alloc|apply pw_below_drewN|apply below_drew1)|exact HB.out)) hb);clear HB;have HB:=n0_;clear n0_)))
       (try simp only [Act.put,List.setIfInBounds_toArray,List.set_cons_zero,List.set_cons_succ])
       go_cut [36] (fun v36 wc=> ∃(kq:Nat) (x36_6:Bool),v36= .bool x36_6∧Aside0 (barqueref09_together.j1 kq l0 x3_1 x36_6=some r)∧Aside0 (kq≤k1)∧Aside0 (Below w.heap.size w wc))
       case first=>
        have H:=HC7.out
        clear HC7
        by_cases c9:x3_1 > 0
        ·rw [if_pos c9] at H
         have c9b0:decide (0 < x3_1)=true:=decide_eq_true c9
         clear c9
         (first|rw [c9b0]|(simp only [i64_w];rw [c9b0])|skip)
         obtain ⟨ji10,hji10⟩: ∃j_:Int,(wrap64 (x3_1 - 1))=j_:=⟨_,rfl⟩
         replace H:(if 0≤(ji10) then (if (ji10) < (l0.length:Int) then ((barqueref09_Order.f k1 (rdOf ByteArray.empty l0 x3_1) (rdOf ByteArray.empty l0 (ji10))).bind fun t198=>(barqueref09_together.j1 k1 l0 x3_1 (decide (t198 < 0)))) else (none)) else (none))=some r:=by first|(rw [hji10] at H;exact H)|(simp only [hji10] at H ⊢;exact H)
         have hji10w:(IntKind.i64.wrap (x3_1 - 1))=ji10:=(i64_w _).trans hji10
         by_cases c11:0≤(ji10)
         ·rw [if_pos c11] at H
          have c11b0:decide (0≤(ji10))=true:=decide_eq_true c11
          clear c11
          by_cases c12:(ji10) < (l0.length:Int)
          ·rw [if_pos c12] at H
           have c12b0:decide ((ji10) < (l0.length:Int))=true:=decide_eq_true c12
           clear c12
           replace H:=Option.bind_eq_some_iff.mp H
           obtain ⟨t198,A130,H⟩:=H
           replace H:(barqueref09_together.j1 k1 l0 x3_1 (decide (t198 < 0)))=some r:=H
           have A13:=Aside0.mk A130
           clear A130
           have H':=Aside0.mk H
           clear H
           have p196:0≤(x3_1:Int):=of_decide_eq_true (by assumption)
           have q196:x3_1 < (l0.length:Int):=of_decide_eq_true (by assumption)
           obtain ⟨ad196,e196,hx196_0⟩:=Kd.at_string HR0.out x3_1 p196 q196
           obtain rfl:ad194=ad196:=(by injection e196)
           replace hx196_0:=(HB.out.cell (World.block_lt_of_cell? w _ hx196_0)).trans hx196_0
           replace p196:=eq_true p196
           replace q196:=eq_true q196
           have p197:0≤((ji10):Int):=of_decide_eq_true (by assumption)
           have q197:(ji10) < (l0.length:Int):=of_decide_eq_true (by assumption)
           obtain ⟨ad197,e197,hx197_0⟩:=Kd.at_string HR0.out (ji10) p197 q197
           obtain rfl:ad194=ad197:=(by injection e197)
           replace hx197_0:=(HB.out.cell (World.block_lt_of_cell? w _ hx197_0)).trans hx197_0
           replace p197:=eq_true p197
           replace q197:=eq_true q197
           go_wp2_with (first|(go_at_call 65;(with_reducible refine (barqueref09_Order.calls k1 (rdOf ByteArray.empty l0 x3_1) (rdOf ByteArray.empty l0 (ji10)) t198 _ A13.out).mono ?_);rintro e w' ⟨rfl,⟨nd,rfl⟩⟩;(try first|exact ⟨rfl,_,World.drewN_drewN _ _ _⟩|exact ⟨rfl,_,Eq.trans (World.drewN_drewN _ _ _) (congrArg (World.drewN _) (Nat.add_assoc _ _ _))⟩)))
           repeat (go_quiet (first|(go_at_call 65;(with_reducible refine (barqueref09_Order.calls k1 (rdOf ByteArray.empty l0 x3_1) (rdOf ByteArray.empty l0 (ji10)) t198 _ A13.out).mono ?_);rintro e w' ⟨rfl,⟨nd,rfl⟩⟩;(try first|exact ⟨rfl,_,World.drewN_drewN _ _ _⟩|exact ⟨rfl,_,Eq.trans (World.drewN_drewN _ _ _) (congrArg (World.drewN _) (Nat.add_assoc _ _ _))⟩)));try go_wp2_with (first|(go_at_call 65;(with_reducible refine (barqueref09_Order.calls k1 (rdOf ByteArray.empty l0 x3_1) (rdOf ByteArray.empty l0 (ji10)) t198 _ A13.out).mono ?_);rintro e w' ⟨rfl,⟨nd,rfl⟩⟩;(try first|exact ⟨rfl,_,World.drewN_drewN _ _ _⟩|exact ⟨rfl,_,Eq.trans (World.drewN_drewN _ _ _) (congrArg (World.drewN _) (Nat.add_assoc _ _ _))⟩))))
           go_meet
           case rel=>exact ⟨_,(decide (t198 < 0)),(by first|rfl|(simp;done)|(simp [*];done)),H',⟨by have:=HK1.out;first|omega|exact Nat.le_refl _⟩,⟨by repeat (first|(with_reducible first|exact HB.out|apply below_alloc|apply pw_below_drewN|apply below_drew1)|exact HB.out)⟩⟩
          ·rw [if_neg c12] at H
           exact absurd H (by simp)
         ·rw [if_neg c11] at H
          exact absurd H (by simp)
        ·rw [if_neg c9] at H
         have c9b0:decide (0 < x3_1)=false:=decide_eq_false c9
         clear c9
         (first|rw [c9b0]|(simp only [i64_w];rw [c9b0])|skip)
         have H':=Aside0.mk H
         clear H
         go_wp2
         repeat (go_quiet (fail);try go_wp2)
         go_meet
         case rel=>exact ⟨_,(false),(by first|rfl|(simp;done)|(simp [*];done)),H',⟨by have:=HK1.out;first|omega|exact Nat.le_refl _⟩,⟨by repeat (first|(with_reducible first|exact HB.out|apply below_alloc|apply pw_below_drewN|apply below_drew1)|exact HB.out)⟩⟩
       case rest=>
        clear HC7
        obtain ⟨kq,x36_6,rfl,HA,HJ6,HB⟩:=hcut
        cases kq with
        |zero=>exact absurd HA.out (by simp [barqueref09_together.j1])
        |succ kj6=>
         have H:=HA.out
         clear HA
         simp only [barqueref09_together.j1] at H
         by_cases c14:x36_6=true
         ·subst c14
          have H1:(some 12)=some r:=by rw [if_pos rfl] at H;exact H
          clear H
          have H:=H1
          clear H1
          obtain rfl:=Option.some.inj H
          go_wp2
          repeat (go_quiet (fail);try go_wp2)
          go_ret
          exact ⟨by first|rfl|(simp [errW_none]<;>rfl)|(simp [*]<;>rfl),by repeat (first|(with_reducible first|exact HB.out|apply below_alloc|apply pw_below_drewN|apply below_drew1)|exact HB.out)⟩
         ·replace c14:=Bool.eq_false_iff.mpr c14
          subst c14
          have H1:(if x3_1 > 0 then (if 0≤x3_1 then (if x3_1 < (l0.length:Int) then (if 0≤(wrap64 (x3_1 - 1)) then (if (wrap64 (x3_1 - 1)) < (l0.length:Int) then (if (rdOf ByteArray.empty l0 x3_1).toList=(rdOf ByteArray.empty l0 (wrap64 (x3_1 - 1))).toList then (some 9) else ((barqueref09_Within.f (rdOf ByteArray.empty l0 x3_1) (rdOf ByteArray.empty l0 (wrap64 (x3_1 - 1)))).bind fun t203=>(if t203=true then (some 9) else (barqueref09_together.l0 kj6 l0 (wrap64 (x3_1+1)))))) else (none)) else (none)) else (none)) else (none)) else (barqueref09_together.l0 kj6 l0 (wrap64 (x3_1+1))))=some r:=by rw [if_neg (show ¬(false=true) by decide)] at H;exact H
          clear H
          have H:=H1
          clear H1
          by_cases c15:x3_1 > 0
          ·rw [if_pos c15] at H
           have c15b0:decide (0 < x3_1)=true:=decide_eq_true c15
           clear c15
           by_cases c16:0≤x3_1
           ·rw [if_pos c16] at H
            have c16b0:decide (0≤x3_1)=true:=decide_eq_true c16
            clear c16
            by_cases c17:x3_1 < (l0.length:Int)
            ·rw [if_pos c17] at H
             have c17b0:decide (x3_1 < (l0.length:Int))=true:=decide_eq_true c17
             clear c17
             obtain ⟨ji18,hji18⟩: ∃j_:Int,(wrap64 (x3_1 - 1))=j_:=⟨_,rfl⟩
             replace H:(if 0≤(ji18) then (if (ji18) < (l0.length:Int) then (if (rdOf ByteArray.empty l0 x3_1).toList=(rdOf ByteArray.empty l0 (ji18)).toList then (some 9) else ((barqueref09_Within.f (rdOf ByteArray.empty l0 x3_1) (rdOf ByteArray.empty l0 (ji18))).bind fun t203=>(if t203=true then (some 9) else (barqueref09_together.l0 kj6 l0 (wrap64 (x3_1+1)))))) else (none)) else (none))=some r:=by first|(rw [hji18] at H;exact H)|(simp only [hji18] at H ⊢;exact H)
             have hji18w:(IntKind.i64.wrap (x3_1 - 1))=ji18:=(i64_w _).trans hji18
             by_cases c19:0≤(ji18)
             ·rw [if_pos c19] at H
              have c19b0:decide (0≤(ji18))=true:=decide_eq_true c19
              clear c19
              by_cases c20:(ji18) < (l0.length:Int)
              ·rw [if_pos c20] at H
               have c20b0:decide ((ji18) < (l0.length:Int))=true:=decide_eq_true c20
               clear c20
               by_cases c21:(rdOf ByteArray.empty l0 x3_1).toList=(rdOf ByteArray.empty l0 (ji18)).toList
               ·rw [if_pos c21] at H
                have c21b0:((rdOf ByteArray.empty l0 x3_1).toList == (rdOf ByteArray.empty l0 (ji18)).toList)=true:=beq_iff_eq.mpr c21
                have c21b1:((rdOf ByteArray.empty l0 x3_1).toList != (rdOf ByteArray.empty l0 (ji18)).toList)=false:=bne_eq_false_iff_eq.mpr c21
                clear c21
                obtain rfl:=Option.some.inj H
                have p199:0≤(x3_1:Int):=of_decide_eq_true (by assumption)
                have q199:x3_1 < (l0.length:Int):=of_decide_eq_true (by assumption)
                obtain ⟨ad199,e199,hx199_0⟩:=Kd.at_string HR0.out x3_1 p199 q199
                obtain rfl:ad194=ad199:=(by injection e199)
                replace hx199_0:=(HB.out.cell (World.block_lt_of_cell? w _ hx199_0)).trans hx199_0
                replace p199:=eq_true p199
                replace q199:=eq_true q199
                have p200:0≤((ji18):Int):=of_decide_eq_true (by assumption)
                have q200:(ji18) < (l0.length:Int):=of_decide_eq_true (by assumption)
                obtain ⟨ad200,e200,hx200_0⟩:=Kd.at_string HR0.out (ji18) p200 q200
                obtain rfl:ad194=ad200:=(by injection e200)
                replace hx200_0:=(HB.out.cell (World.block_lt_of_cell? w _ hx200_0)).trans hx200_0
                replace p200:=eq_true p200
                replace q200:=eq_true q200
                go_wp2
                repeat (go_quiet (fail);try go_wp2)
                go_ret
                exact ⟨by first|rfl|(simp [errW_none]<;>rfl)|(simp only [← hji18];first|rfl|(simp [errW_none]<;>rfl))|(simp [*]<;>rfl),by repeat (first|(with_reducible first|exact HB.out|apply below_alloc|apply pw_below_drewN|apply below_drew1)|exact HB.out)⟩
               ·rw [if_neg c21] at H
                have c21b0:((rdOf ByteArray.empty l0 x3_1).toList == (rdOf ByteArray.empty l0 (ji18)).toList)=false:=beq_eq_false_iff_ne.mpr c21
                have c21b1:((rdOf ByteArray.empty l0 x3_1).toList != (rdOf ByteArray.empty l0 (ji18)).toList)=true:=bne_iff_ne.mpr c21
                replace H:=Option.bind_eq_some_iff.mp H
                obtain ⟨t203,A220,H⟩:=H
                replace H:(if t203=true then (some 9) else (barqueref09_together.l0 kj6 l0 (wrap64 (x3_1+1))))=some r:=H
                have A22:=Aside0.mk A220
                clear A220
                by_cases c23:t203=true
                ·subst c23
                 have H1:(some 9)=some r:=by rw [if_pos rfl] at H;exact H
                 clear H
                 have H:=H1
                 clear H1
                 obtain rfl:=Option.some.inj H
                 have p199:0≤(x3_1:Int):=of_decide_eq_true (by assumption)
                 have q199:x3_1 < (l0.length:Int):=of_decide_eq_true (by assumption)
                 obtain ⟨ad199,e199,hx199_0⟩:=Kd.at_string HR0.out x3_1 p199 q199
                 obtain rfl:ad194=ad199:=(by injection e199)
                 replace hx199_0:=(HB.out.cell (World.block_lt_of_cell? w _ hx199_0)).trans hx199_0
                 replace p199:=eq_true p199
                 replace q199:=eq_true q199
                 have p200:0≤((ji18):Int):=of_decide_eq_true (by assumption)
                 have q200:(ji18) < (l0.length:Int):=of_decide_eq_true (by assumption)
                 obtain ⟨ad200,e200,hx200_0⟩:=Kd.at_string HR0.out (ji18) p200 q200
                 obtain rfl:ad194=ad200:=(by injection e200)
                 replace hx200_0:=(HB.out.cell (World.block_lt_of_cell? w _ hx200_0)).trans hx200_0
                 replace p200:=eq_true p200
                 replace q200:=eq_true q200
                 have p201:0≤(x3_1:Int):=of_decide_eq_true (by assumption)
                 have q201:x3_1 < (l0.length:Int):=of_decide_eq_true (by assumption)
                 obtain ⟨ad201,e201,hx201_0⟩:=Kd.at_string HR0.out x3_1 p201 q201
                 obtain rfl:ad194=ad201:=(by injection e201)
                 replace hx201_0:=(HB.out.cell (World.block_lt_of_cell? w _ hx201_0)).trans hx201_0
                 replace p201:=eq_true p201
                 replace q201:=eq_true q201
                 have p202:0≤((ji18):Int):=of_decide_eq_true (by assumption)
                 have q202:(ji18) < (l0.length:Int):=of_decide_eq_true (by assumption)
                 obtain ⟨ad202,e202,hx202_0⟩:=Kd.at_string HR0.out (ji18) p202 q202
                 obtain rfl:ad194=ad202:=(by injection e202)
                 replace hx202_0:=(HB.out.cell (World.block_lt_of_cell? w _ hx202_0)).trans hx202_0
                 replace p202:=eq_true p202
                 replace q202:=eq_true q202
                 go_wp2_with (first|(go_at_call 66;(with_reducible refine (barqueref09_Within.calls (rdOf ByteArray.empty l0 x3_1) (rdOf ByteArray.empty l0 (ji18)) true _ A22.out).mono ?_);rintro e w' ⟨rfl,⟨nd,rfl⟩⟩;(try first|exact ⟨rfl,_,World.drewN_drewN _ _ _⟩|exact ⟨rfl,_,Eq.trans (World.drewN_drewN _ _ _) (congrArg (World.drewN _) (Nat.add_assoc _ _ _))⟩)))
                 repeat (go_quiet (first|(go_at_call 66;(with_reducible refine (barqueref09_Within.calls (rdOf ByteArray.empty l0 x3_1) (rdOf ByteArray.empty l0 (ji18)) true _ A22.out).mono ?_);rintro e w' ⟨rfl,⟨nd,rfl⟩⟩;(try first|exact ⟨rfl,_,World.drewN_drewN _ _ _⟩|exact ⟨rfl,_,Eq.trans (World.drewN_drewN _ _ _) (congrArg (World.drewN _) (Nat.add_assoc _ _ _))⟩)));try go_wp2_with (first|(go_at_call 66;(with_reducible refine (barqueref09_Within.calls (rdOf ByteArray.empty l0 x3_1) (rdOf ByteArray.empty l0 (ji18)) true _ A22.out).mono ?_);rintro e w' ⟨rfl,⟨nd,rfl⟩⟩;(try first|exact ⟨rfl,_,World.drewN_drewN _ _ _⟩|exact ⟨rfl,_,Eq.trans (World.drewN_drewN _ _ _) (congrArg (World.drewN _) (Nat.add_assoc _ _ _))⟩))))
                 go_ret
                 exact ⟨by first|rfl|(simp [errW_none]<;>rfl)|(simp only [← hji18];first|rfl|(simp [errW_none]<;>rfl))|(simp [*]<;>rfl),by repeat (first|(with_reducible first|exact HB.out|apply below_alloc|apply pw_below_drewN|apply below_drew1)|exact HB.out)⟩
                ·replace c23:=Bool.eq_false_iff.mpr c23
                 subst c23
                 have H1:(barqueref09_together.l0 kj6 l0 (wrap64 (x3_1+1)))=some r:=by rw [if_neg (show ¬(false=true) by decide)] at H;exact H
                 clear H
                 have H:=H1
                 clear H1
                 have H':=Aside0.mk H
                 clear H
                 have p199:0≤(x3_1:Int):=of_decide_eq_true (by assumption)
                 have q199:x3_1 < (l0.length:Int):=of_decide_eq_true (by assumption)
                 obtain ⟨ad199,e199,hx199_0⟩:=Kd.at_string HR0.out x3_1 p199 q199
                 obtain rfl:ad194=ad199:=(by injection e199)
                 replace hx199_0:=(HB.out.cell (World.block_lt_of_cell? w _ hx199_0)).trans hx199_0
                 replace p199:=eq_true p199
                 replace q199:=eq_true q199
                 have p200:0≤((ji18):Int):=of_decide_eq_true (by assumption)
                 have q200:(ji18) < (l0.length:Int):=of_decide_eq_true (by assumption)
                 obtain ⟨ad200,e200,hx200_0⟩:=Kd.at_string HR0.out (ji18) p200 q200
                 obtain rfl:ad194=ad200:=(by injection e200)
                 replace hx200_0:=(HB.out.cell (World.block_lt_of_cell? w _ hx200_0)).trans hx200_0
                 replace p200:=eq_true p200
                 replace q200:=eq_true q200
                 have p201:0≤(x3_1:Int):=of_decide_eq_true (by assumption)
                 have q201:x3_1 < (l0.length:Int):=of_decide_eq_true (by assumption)
                 obtain ⟨ad201,e201,hx201_0⟩:=Kd.at_string HR0.out x3_1 p201 q201
                 obtain rfl:ad194=ad201:=(by injection e201)
                 replace hx201_0:=(HB.out.cell (World.block_lt_of_cell? w _ hx201_0)).trans hx201_0
                 replace p201:=eq_true p201
                 replace q201:=eq_true q201
                 have p202:0≤((ji18):Int):=of_decide_eq_true (by assumption)
                 have q202:(ji18) < (l0.length:Int):=of_decide_eq_true (by assumption)
                 obtain ⟨ad202,e202,hx202_0⟩:=Kd.at_string HR0.out (ji18) p202 q202
                 obtain rfl:ad194=ad202:=(by injection e202)
                 replace hx202_0:=(HB.out.cell (World.block_lt_of_cell? w _ hx202_0)).trans hx202_0
                 replace p202:=eq_true p202
                 replace q202:=eq_true q202
                 go_wp2_with (first|(go_at_call 66;(with_reducible refine (barqueref09_Within.calls (rdOf ByteArray.empty l0 x3_1) (rdOf ByteArray.empty l0 (ji18)) false _ A22.out).mono ?_);rintro e w' ⟨rfl,⟨nd,rfl⟩⟩;(try first|exact ⟨rfl,_,World.drewN_drewN _ _ _⟩|exact ⟨rfl,_,Eq.trans (World.drewN_drewN _ _ _) (congrArg (World.drewN _) (Nat.add_assoc _ _ _))⟩)))
                 repeat (go_quiet (first|(go_at_call 66;(with_reducible refine (barqueref09_Within.calls (rdOf ByteArray.empty l0 x3_1) (rdOf ByteArray.empty l0 (ji18)) false _ A22.out).mono ?_);rintro e w' ⟨rfl,⟨nd,rfl⟩⟩;(try first|exact ⟨rfl,_,World.drewN_drewN _ _ _⟩|exact ⟨rfl,_,Eq.trans (World.drewN_drewN _ _ _) (congrArg (World.drewN _) (Nat.add_assoc _ _ _))⟩)));try go_wp2_with (first|(go_at_call 66;(with_reducible refine (barqueref09_Within.calls (rdOf ByteArray.empty l0 x3_1) (rdOf ByteArray.empty l0 (ji18)) false _ A22.out).mono ?_);rintro e w' ⟨rfl,⟨nd,rfl⟩⟩;(try first|exact ⟨rfl,_,World.drewN_drewN _ _ _⟩|exact ⟨rfl,_,Eq.trans (World.drewN_drewN _ _ _) (congrArg (World.drewN _) (Nat.add_assoc _ _ _))⟩))))
                 go_roundg kj6
                 case measure=>have:=HK1.out;have:=HJ6.out;omega
                 case rel=>exact ⟨(wrap64 (x3_1+1)),(by first|rfl|(simp;done)|(simp [*];done)),H',⟨by have:=HK1.out;have:=HJ6.out;omega⟩,⟨by repeat (first|(with_reducible first|exact HB.out|apply below_alloc|apply pw_below_drewN|apply below_drew1)|exact HB.out)⟩⟩
              ·rw [if_neg c20] at H
               exact absurd H (by simp)
             ·rw [if_neg c19] at H
              exact absurd H (by simp)
            ·rw [if_neg c17] at H
             exact absurd H (by simp)
           ·rw [if_neg c16] at H
            exact absurd H (by simp)
          ·rw [if_neg c15] at H
           have c15b0:decide (0 < x3_1)=false:=decide_eq_false c15
           clear c15
           have H':=Aside0.mk H
           clear H
           go_wp2
           repeat (go_quiet (fail);try go_wp2)
           go_roundg kj6
           case measure=>have:=HK1.out;have:=HJ6.out;omega
           case rel=>exact ⟨(wrap64 (x3_1+1)),(by first|rfl|(simp;done)|(simp [*];done)),H',⟨by have:=HK1.out;have:=HJ6.out;omega⟩,⟨by repeat (first|(with_reducible first|exact HB.out|apply below_alloc|apply pw_below_drewN|apply below_drew1)|exact HB.out)⟩⟩
      ·rw [if_neg c6] at H
       have c6b0:(t195 == 0)=false:=beq_eq_false_iff_ne.mpr c6
       have c6b1:(t195 != 0)=true:=bne_iff_ne.mpr c6
       obtain rfl:=Option.some.inj H
       have p194:0≤(x3_1:Int):=of_decide_eq_true (by assumption)
       have q194:x3_1 < (l0.length:Int):=of_decide_eq_true (by assumption)
       obtain ⟨ad194,e194,hx194_0⟩:=Kd.at_string HR0.out x3_1 p194 q194
       cases e194
       replace hx194_0:=(HB.out.cell (World.block_lt_of_cell? w _ hx194_0)).trans hx194_0
       replace p194:=eq_true p194
       replace q194:=eq_true q194
       go_wp2_with (first|(go_at_call 64;(with_reducible refine (barqueref09_Path.calls k1 (rdOf ByteArray.empty l0 x3_1) t195 _ A5.out).mono ?_);rintro e w24 ⟨rfl,hb⟩;have n0_:=Aside0.mk (below_step (by repeat (first|(with_reducible first|exact HB.out|apply below_alloc|apply pw_below_drewN|apply below_drew1)|exact HB.out)) hb);clear HB;have HB:=n0_;clear n0_))
       repeat (go_quiet (first|(go_at_call 64;(with_reducible refine (barqueref09_Path.calls k1 (rdOf ByteArray.empty l0 x3_1) t195 _ A5.out).mono ?_);rintro e w24 ⟨rfl,hb⟩;have n0_:=Aside0.mk (below_step (by repeat (first|(with_reducible first|exact HB.out|apply below_alloc|apply pw_below_drewN|apply below_drew1)|exact HB.out)) hb);clear HB;have HB:=n0_;clear n0_));try go_wp2_with (first|(go_at_call 64;(with_reducible refine (barqueref09_Path.calls k1 (rdOf ByteArray.empty l0 x3_1) t195 _ A5.out).mono ?_);rintro e w24 ⟨rfl,hb⟩;have n0_:=Aside0.mk (below_step (by repeat (first|(with_reducible first|exact HB.out|apply below_alloc|apply pw_below_drewN|apply below_drew1)|exact HB.out)) hb);clear HB;have HB:=n0_;clear n0_)))
       go_ret
       exact ⟨by first|rfl|(simp [errW_none]<;>rfl)|(simp [*]<;>rfl),by repeat (first|(with_reducible first|exact HB.out|apply below_alloc|apply pw_below_drewN|apply below_drew1)|exact HB.out)⟩
     ·rw [if_neg c4] at H
      exact absurd H (by simp)
    ·rw [if_neg c3] at H
     have c3b0:decide (x3_1 < (l0.length:Int))=false:=decide_eq_false c3
     clear c3
     obtain rfl:=Option.some.inj H
     go_wp2
     repeat (go_quiet (fail);try go_wp2)
     go_ret
     exact ⟨by first|rfl|(simp [errW_none]<;>rfl)|(simp [*]<;>rfl),by repeat (first|(with_reducible first|exact HB.out|apply below_alloc|apply pw_below_drewN|apply below_drew1)|exact HB.out)⟩
end Go.Proofs.YthejnffhfmdpnaaDoor.Q

end

section
namespace Go.Proofs.YthejnffhfmdpnaaDoor.Spec
set_option linter.unusedVariables false
open Go.RowKit Go.Proofs.YthejnffhfmdpnaaDoor.Q Go.Proofs.YthejnffhfmdpnaaDoorW.PrintWords Go.Proofs.YthejnffhfmdpnaaDoorW.PrintLast Go.Proofs.YthejnffhfmdpnaaDoorW.PrintMore
def cmpL:List UInt8→List UInt8→Int
 | [],[]=>0
 | [],_::_=> -1
 |_::_,[]=>1
 |x::a,y::b=>if x=y then cmpL a b else if x=47 then -1 else if y=47 then 1 else if x.toNat < y.toNat then -1 else 1
theorem cmpL_cons (x y:UInt8) (a b:List UInt8):cmpL (x::a) (y::b)=if x=y then cmpL a b else if x=47 then -1 else if y=47 then 1 else if x.toNat < y.toNat then -1 else 1:=by rw [cmpL]
theorem cmpL_swap: ∀a b:List UInt8,cmpL b a= - cmpL a b
 | [],[]=>rfl
 | [],_::_=>rfl
 |_::_,[]=>rfl
 |x::a,y::b=>by
  unfold cmpL
  by_cases h:x=y
  ·rw [if_pos h,if_pos h.symm,cmpL_swap a b]
  ·rw [if_neg h,if_neg (fun e=>h e.symm)]
   by_cases h1:x=47
   ·have h2:y≠47:=fun e=>h (h1.trans e.symm)
    simp [h1,h2]
   ·by_cases h2:y=47
    ·simp [h1,h2]
    ·have h3:x.toNat≠y.toNat:=fun e=>h (UInt8.toNat_inj.mp e)
     simp only [h1,h2,if_false]
     by_cases h4:x.toNat < y.toNat
     ·rw [if_pos h4,if_neg (by omega)];rfl
     ·rw [if_neg h4,if_pos (by omega)]
theorem cmpL_zero: ∀a b:List UInt8,cmpL a b=0 ↔ a=b
 | [],[]=>by simp [cmpL]
 | [],_::_=>by simp [cmpL]
 |_::_,[]=>by simp [cmpL]
 |x::a,y::b=>by
  unfold cmpL
  by_cases h:x=y
  ·rw [if_pos h,cmpL_zero a b,h]
   simp
  ·rw [if_neg h]
   constructor
   ·intro e
    split at e<;>try (split at e)<;>try (split at e)
    all_goals simp at e
   ·intro e
    exact absurd (List.cons.inj e).1 h
theorem cmpL_one (a b:List UInt8):cmpL a b=0∨cmpL a b=1∨cmpL a b= -1:=by
 induction a generalizing b with
 |nil=>cases b<;>simp [cmpL]
 |cons x a ih=>
  cases b with
  |nil=>simp [cmpL]
  |cons y b=>
   unfold cmpL
   repeat' split
   all_goals first|exact ih b|simp
def orderP (a b:ByteArray):Int:=cmpL a.data.toList b.data.toList
theorem toNat47 (c:UInt8):((c.toNat:Int)=47) ↔ c=47:=by
 constructor
 ·intro h
  have:c.toNat=47:=by omega
  exact UInt8.toNat_inj.mp this
 ·rintro rfl;rfl
theorem codeOrder_l0 (a b:ByteArray) (ha:a.size≤1000000000) (hb:b.size≤1000000000) (n:Nat): ∀(k i:Nat),i+n=min a.size b.size→n+1≤k→ ∃r,tree_Order.l0 k a b ((min a.size b.size:Nat):Int) (i:Int)=some r∧(0 < r ↔ cmpL (rest a i) (rest b i)=1)∧(r=0 ↔ cmpL (rest a i) (rest b i)=0):=by
 induction n with
 |zero=>
  intro k i hi hk
  obtain ⟨k,rfl⟩: ∃m,k=m+1:=⟨k - 1,by omega⟩
  rw [tree_Order.l0,if_neg (by omega),w64 (by omega) (by omega)]
  refine ⟨_,rfl,?_⟩
  by_cases h1:i < a.size
  ·rw [rest_cons a i h1,rest_end b i (by omega)]
   exact ⟨⟨fun _=>rfl,fun _=>by omega⟩,⟨fun h=>absurd h (by omega),fun h=>absurd h (by simp [cmpL])⟩⟩
  ·by_cases h2:i < b.size
   ·rw [rest_cons b i h2,rest_end a i (by omega)]
    exact ⟨⟨fun h=>absurd h (by omega),fun h=>absurd h (by simp [cmpL])⟩,⟨fun h=>absurd h (by omega),fun h=>absurd h (by simp [cmpL])⟩⟩
   ·rw [rest_end b i (by omega),rest_end a i (by omega)]
    exact ⟨⟨fun h=>absurd h (by omega),fun h=>absurd h (by simp [cmpL])⟩,⟨fun _=>rfl,fun _=>by omega⟩⟩
 |succ n ih=>
  intro k i hi hk
  obtain ⟨k,rfl⟩: ∃m,k=m+1:=⟨k - 1,by omega⟩
  have hia:i < a.size:=by omega
  have hib:i < b.size:=by omega
  have h5:=a[i].toNat_lt
  have h6:=b[i].toNat_lt
  rw [tree_Order.l0,if_pos (by omega),if_pos (by omega),if_pos (by omega),if_pos (by omega),bt_nat a i hia,bt_nat b i hib,w64 (n:=(a[i].toNat:Int)) (by omega) (by omega),w64 (n:=(b[i].toNat:Int)) (by omega) (by omega),w64 (n:=(i:Int)+1) (by omega) (by omega),w64 (n:=(a[i].toNat:Int) - (b[i].toNat:Int)) (by omega) (by omega),rest_cons a i hia,rest_cons b i hib]
  unfold cmpL
  by_cases h:a[i]=b[i]
  ·rw [if_pos (by rw [h]),if_pos h]
   exact ih k (i+1) (by omega) (by omega)
  ·have h3:a[i].toNat≠b[i].toNat:=fun e=>h (UInt8.toNat_inj.mp e)
   rw [if_neg (by omega),if_neg h]
   by_cases h1:a[i]=47
   ·rw [if_pos ((toNat47 _).2 h1),if_pos h1]
    exact ⟨_,rfl,by decide,by decide⟩
   ·rw [if_neg (fun e=>h1 ((toNat47 _).1 e)),if_neg h1]
    by_cases h2:b[i]=47
    ·rw [if_pos ((toNat47 _).2 h2),if_pos h2]
     exact ⟨_,rfl,by decide,by decide⟩
    ·rw [if_neg (fun e=>h2 ((toNat47 _).1 e)),if_neg h2]
     refine ⟨_,rfl,?_⟩
     by_cases h4:a[i].toNat < b[i].toNat
     ·rw [if_pos h4]
      exact ⟨⟨fun e=>absurd e (by omega),fun e=>absurd e (by decide)⟩,⟨fun e=>absurd e (by omega),fun e=>absurd e (by decide)⟩⟩
     ·rw [if_neg h4]
      exact ⟨⟨fun _=>rfl,fun _=>by omega⟩,⟨fun e=>absurd e (by omega),fun e=>absurd e (by decide)⟩⟩
theorem codeOrder (k:Nat) (a b:ByteArray) (ha:a.size≤1000000000) (hb:b.size≤1000000000) (hk:a.size+1≤k): ∃r,tree_Order.f k a b=some r∧(0 < r ↔ orderP a b=1)∧(r=0 ↔ orderP a b=0):=by
 have hm:mn (a.size:Int) (b.size:Int)=((min a.size b.size:Nat):Int):=by unfold mn;split<;>omega
 have:=codeOrder_l0 a b ha hb (min a.size b.size) k 0 (by omega) (by omega)
 rw [show ((0:Nat):Int)=0 from rfl] at this
 unfold tree_Order.f
 rw [hm]
 simpa [orderP,rest] using this
theorem refOrder_l0 (a b:ByteArray) (ha:a.size≤1000000000) (hb:b.size≤1000000000) (n:Nat): ∀(k i:Nat),i+n=max a.size b.size→4*n+2≤k→barqueref09_Order.l0 k a b (i:Int)=some (cmpL (rest a i) (rest b i)):=by
 induction n with
 |zero=>
  intro k i hi hk
  obtain ⟨k,rfl⟩: ∃m,k=m+2:=⟨k - 2,by omega⟩
  rw [barqueref09_Order.l0,if_neg (by omega),decide_eq_false (by omega),barqueref09_Order.j1,if_neg (by decide),rest_end b i (by omega),rest_end a i (by omega)]
  rfl
 |succ n ih=>
  intro k i hi hk
  obtain ⟨k,rfl⟩: ∃m,k=m+4:=⟨k - 4,by omega⟩
  have ht:barqueref09_Order.l0 (k+4) a b (i:Int)=barqueref09_Order.j1 (k+3) a b (i:Int) true:=by
   rw [barqueref09_Order.l0]
   by_cases h:i < a.size
   ·rw [if_pos (by omega)]
   ·rw [if_neg (by omega),decide_eq_true (by omega)]
  rw [ht,barqueref09_Order.j1,if_pos rfl]
  by_cases hia:i < a.size
  ·have h5:=a[i].toNat_lt
   rw [if_pos (by omega),if_pos (by omega),bt_nat a i hia,w64 (n:=(a[i].toNat:Int)) (by omega) (by omega),w64 (n:=(a[i].toNat:Int)+1) (by omega) (by omega),rest_cons a i hia]
   by_cases hib:i < b.size
   ·have h6:=b[i].toNat_lt
    have hj2: ∀x6,barqueref09_Order.j2 (k+2) a b (i:Int) x6 (-1)=barqueref09_Order.j3 (k+1) a b (i:Int) x6 (if b[i]=47 then 0 else (b[i].toNat:Int)+1):=by
     intro x6
     rw [barqueref09_Order.j2,if_pos (by omega),if_pos (by omega),bt_nat b i hib,w64 (n:=(b[i].toNat:Int)) (by omega) (by omega),w64 (n:=(b[i].toNat:Int)+1) (by omega) (by omega)]
     by_cases h:b[i]=47
     ·rw [if_pos ((toNat47 _).2 h),if_pos h]
     ·rw [if_neg (fun e=>h ((toNat47 _).1 e)),if_neg h]
    rw [hj2,hj2,rest_cons b i hib]
    have hj1:(if (a[i].toNat:Int)=47 then barqueref09_Order.j3 (k+1) a b (i:Int) 0 (if b[i]=47 then 0 else (b[i].toNat:Int)+1) else barqueref09_Order.j3 (k+1) a b (i:Int) ((a[i].toNat:Int)+1) (if b[i]=47 then 0 else (b[i].toNat:Int)+1))=barqueref09_Order.j3 (k+1) a b (i:Int) (if a[i]=47 then 0 else (a[i].toNat:Int)+1) (if b[i]=47 then 0 else (b[i].toNat:Int)+1):=by
     by_cases h:a[i]=47
     ·rw [if_pos ((toNat47 _).2 h),if_pos h]
     ·rw [if_neg (fun e=>h ((toNat47 _).1 e)),if_neg h]
    rw [hj1,barqueref09_Order.j3,w64 (n:=(i:Int)+1) (by omega) (by omega),show (i:Int)+1=((i+1:Nat):Int) by omega,ih k (i+1) (by omega) (by omega)]
    rw [cmpL_cons]
    by_cases h:a[i]=b[i]
    ·rw [h,if_neg (by omega),if_neg (by omega),if_pos rfl]
    ·have h3:a[i].toNat≠b[i].toNat:=fun e=>h (UInt8.toNat_inj.mp e)
     rw [if_neg (c:=a[i]=b[i]) h]
     by_cases h1:a[i]=47
     ·have h2:b[i]≠47:=fun e=>h (h1.trans e.symm)
      rw [if_pos h1,if_neg h2,if_pos (by omega),if_pos h1]
     ·rw [if_neg h1]
      by_cases h2:b[i]=47
      ·rw [if_pos h2,if_neg (by omega),if_pos (by omega),if_neg h1,if_pos h2]
      ·rw [if_neg h2,if_neg h1,if_neg h2]
       by_cases h4:a[i].toNat < b[i].toNat
       ·rw [if_pos (by omega),if_pos h4]
       ·rw [if_neg (by omega),if_pos (by omega),if_neg h4]
   ·have hj2: ∀x6,barqueref09_Order.j2 (k+2) a b (i:Int) x6 (-1)=barqueref09_Order.j3 (k+1) a b (i:Int) x6 (-1):=by
     intro x6
     rw [barqueref09_Order.j2,if_neg (by omega)]
    rw [hj2,hj2,rest_end b i (by omega),barqueref09_Order.j3,barqueref09_Order.j3]
    by_cases h:(a[i].toNat:Int)=47
    ·rw [if_pos h];rfl
    ·rw [if_neg h,if_neg (by omega),if_pos (by omega)];rfl
  ·have hib:i < b.size:=by omega
   have h6:=b[i].toNat_lt
   rw [if_neg (by omega),barqueref09_Order.j2,if_pos (by omega),if_pos (by omega),bt_nat b i hib,w64 (n:=(b[i].toNat:Int)) (by omega) (by omega),w64 (n:=(b[i].toNat:Int)+1) (by omega) (by omega),rest_cons b i hib,rest_end a i (by omega),barqueref09_Order.j3,barqueref09_Order.j3]
   by_cases h:(b[i].toNat:Int)=47
   ·rw [if_pos h];rfl
   ·rw [if_neg h,if_pos (by omega)];rfl
theorem refOrder (k:Nat) (a b:ByteArray) (ha:a.size≤1000000000) (hb:b.size≤1000000000) (hk:4*(max a.size b.size)+2≤k):barqueref09_Order.f k a b=some (orderP a b):=by
 unfold barqueref09_Order.f
 have:=refOrder_l0 a b ha hb (max a.size b.size) k 0 (by omega) (by omega)
 rw [show ((0:Nat):Int)=0 from rfl] at this
 rw [this]
 rfl
def withinP (s p:ByteArray):Bool:=decide (s.data.toList.take (p.size+1)=p.data.toList++[47])
theorem toList_data (s:ByteArray):s.toList=s.data.toList:=ByteArray.toList_eq s
theorem dlen (s:ByteArray):s.data.toList.length=s.size:=by rw [Array.length_toList];rfl
theorem take_next (s:ByteArray) (i:Nat) (hi:i < s.size):s.data.toList.take (i+1)=s.data.toList.take i++[s[i]]:=by
 rw [List.take_succ_eq_append_getElem (by rw [dlen];exact hi)]
 rfl
theorem withinP_far (s p:ByteArray) (h: ¬p.size < s.size):withinP s p=false:=by
 unfold withinP
 refine decide_eq_false (fun e=>?_)
 have:=congrArg List.length e
 rw [List.length_take,List.length_append,dlen,dlen,List.length_singleton] at this
 omega
theorem extract0 (s:ByteArray) (n:Nat):(s.extract 0 n).toList=s.data.toList.take n:=by
 rw [toList_data,Lib.extract_from_zero]
theorem codeWithin (s p:ByteArray):tree_Within.f s p=some (withinP s p):=by
 unfold tree_Within.f
 by_cases h:p.size < s.size
 ·rw [if_pos h,extract0,toList_data,bt_nat s p.size h]
  unfold withinP
  rw [take_next s p.size h]
  congr 1
  by_cases h1:s.data.toList.take p.size=p.data.toList
  ·rw [if_pos h1,h1]
   by_cases h2:s[p.size]=47
   ·rw [h2,decide_eq_true rfl];rfl
   ·rw [decide_eq_false (show ¬(p.data.toList++[s[p.size]]=p.data.toList++[47]) from fun e=>h2 (List.singleton_inj.mp (List.append_cancel_left e)))]
    exact beq_eq_false_iff_ne.mpr (fun e=>h2 ((toNat47 _).1 e))
  ·rw [if_neg h1,decide_eq_false (show ¬(s.data.toList.take p.size++[s[p.size]]=p.data.toList++[47]) from fun e=>h1 (List.append_inj_left' e rfl))]
 ·rw [if_neg h,withinP_far s p h]
theorem refWithin (s p:ByteArray) (hs:s.size≤1000000000):barqueref09_Within.f s p=some (withinP s p):=by
 unfold barqueref09_Within.f
 by_cases h:p.size < s.size
 ·rw [if_pos (by omega),w64 (by omega) (by omega),if_pos (by omega),if_pos (by omega),if_pos (by omega),show ((p.size:Int)+1).toNat=p.size+1 by omega,extract0,toList_data]
  unfold withinP
  congr 1
  rw [show (p++(⟨#[47]⟩:ByteArray)).data.toList=p.data.toList++[47] by simp]
  by_cases h1:s.data.toList.take (p.size+1)=p.data.toList++[47]
  ·rw [decide_eq_true h1,h1];simp
  ·rw [decide_eq_false h1];exact beq_eq_false_iff_ne.mpr h1
 ·rw [if_neg (by omega),withinP_far s p h]
def goP:Option ByteArray→List ByteArray→Int
 |_,[]=>0
 |none,s::t=>if pathP s=0 then goP (some s) t else pathP s
 |some p,s::t=>if pathP s=0 then (if orderP p s=1 then 12 else if orderP p s=0 then 9 else if withinP s p=true then 9 else goP (some s) t) else pathP s
def pathsP (l:List ByteArray):Int:=if (l.length:Int) > 256 then 7 else goP none l
theorem pathP_zero {s:ByteArray} (h:pathP s=0):s.size≤200:=by
 unfold pathP at h
 split at h
 ·simp at h
 ·omega
theorem rdOf_at (l:List ByteArray) (i:Nat) (hi:i < l.length):rdOf ByteArray.empty l (i:Int)=l[i]:=by
 rw [rdOf_cons _ l[i],List.getD_eq_getElem?_getD,List.getElem?_eq_getElem hi,Option.getD_some]
theorem codePaths_go (l:List ByteArray) (hl:l.length < 1000000) (n:Nat): ∀(k i:Nat),i+1+n=l.length→n+1000≤k→(hi:i < l.length)→l[i].size≤200→tree_paths.l0 k l l (l.length:Int) ((i+1:Nat):Int)=some (goP (some l[i]) (l.drop (i+1))):=by
 induction n with
 |zero=>
  intro k i hi hk hlt hs
  obtain ⟨k,rfl⟩: ∃m,k=m+1:=⟨k - 1,by omega⟩
  rw [tree_paths.l0,if_neg (by omega),List.drop_eq_nil_of_le (by omega)]
  rfl
 |succ n ih=>
  intro k i hi hk hlt hs
  obtain ⟨k,rfl⟩: ∃m,k=m+1:=⟨k - 1,by omega⟩
  have hil:i+1 < l.length:=by omega
  rw [tree_paths.l0,if_pos (by omega),if_pos (by omega),if_pos (by omega),rdOf_at l (i+1) hil,codePath k _ (by omega),Option.bind_some,List.drop_eq_getElem_cons hil,goP]
  by_cases hp:pathP l[i+1]=0
  ·have hs1:=pathP_zero hp
   obtain ⟨r,hr,h1,h0⟩:=codeOrder k l[i] l[i+1] (by omega) (by omega) (by omega)
   rw [if_pos hp,if_pos hp,if_neg (by omega),w64 (n:=((i+1:Nat):Int) - 1) (by omega) (by omega),show ((i+1:Nat):Int) - 1=(i:Int) by omega,if_pos (by omega),if_pos (by omega),rdOf_at l i hlt,hr,Option.bind_some]
   by_cases c1:0 < r
   ·rw [if_pos c1,if_pos (h1.1 c1)]
   ·rw [if_neg c1,if_neg (fun e=>c1 (h1.2 e))]
    by_cases c0:r=0
    ·rw [if_pos c0,if_pos (h0.1 c0)]
    ·rw [if_neg c0,if_neg (fun e=>c0 (h0.2 e)),codeWithin,Option.bind_some]
     by_cases cw:withinP l[i+1] l[i]=true
     ·rw [if_pos cw,if_pos cw]
     ·rw [if_neg cw,if_neg cw,w64 (by omega) (by omega),show ((i+1:Nat):Int)+1=((i+1+1:Nat):Int) by omega]
      exact ih k (i+1) (by omega) (by omega) hil hs1
  ·rw [if_neg hp,if_neg hp]
theorem codePaths (k:Nat) (l:List ByteArray) (hk:1300≤k):tree_paths.f k l=some (pathsP l):=by
 unfold tree_paths.f pathsP
 by_cases h:(l.length:Int) > 256
 ·rw [if_pos h,if_pos h]
 ·rw [if_neg h,if_neg h]
  obtain ⟨k,rfl⟩: ∃m,k=m+1:=⟨k - 1,by omega⟩
  cases l with
  |nil=>rw [tree_paths.l0,if_neg (by simp)];rfl
  |cons s t=>
   have hl0:(0:Nat) < (s::t).length:=by simp
   have e0:rdOf ByteArray.empty (s::t) 0=s:=rdOf_at (s::t) 0 hl0
   rw [tree_paths.l0,if_pos (by rw [List.length_cons];omega),if_pos (by omega),if_pos (by rw [List.length_cons];omega),e0,codePath k _ (by omega),Option.bind_some]
   rw [goP]
   by_cases hp:pathP s=0
   ·rw [if_pos hp,if_pos rfl,w64 (by omega) (by omega),if_pos hp]
    have:=codePaths_go (s::t) (by omega) t.length k 0 (by rw [List.length_cons];omega) (by rw [List.length_cons] at h;omega) hl0 (pathP_zero hp)
    simpa using this
   ·rw [if_neg hp,if_neg hp]
theorem refPaths_go (l:List ByteArray) (hl:l.length < 1000000) (n:Nat): ∀(k i:Nat),i+1+n=l.length→2*n+1000≤k→(hi:i < l.length)→l[i].size≤200→barqueref09_together.l0 k l ((i+1:Nat):Int)=some (goP (some l[i]) (l.drop (i+1))):=by
 induction n with
 |zero=>
  intro k i hi hk hlt hs
  obtain ⟨k,rfl⟩: ∃m,k=m+1:=⟨k - 1,by omega⟩
  rw [barqueref09_together.l0,if_neg (by omega),List.drop_eq_nil_of_le (by omega)]
  rfl
 |succ n ih=>
  intro k i hi hk hlt hs
  obtain ⟨k,rfl⟩: ∃m,k=m+2:=⟨k - 2,by omega⟩
  have hil:i+1 < l.length:=by omega
  rw [barqueref09_together.l0,if_pos (by omega),if_pos (by omega),rdOf_at l (i+1) hil,refPath (k+1) _ (by omega),Option.bind_some,List.drop_eq_getElem_cons hil,goP]
  by_cases hp:pathP l[i+1]=0
  ·have hs1:=pathP_zero hp
   rw [if_pos hp,if_pos hp,if_pos (by omega),w64 (n:=((i+1:Nat):Int) - 1) (by omega) (by omega),show ((i+1:Nat):Int) - 1=(i:Int) by omega,if_pos (by omega),if_pos (by omega),rdOf_at l i hlt,refOrder (k+1) _ _ (by omega) (by omega) (by omega),Option.bind_some,barqueref09_together.j1]
   have hsw:orderP l[i+1] l[i]= - orderP l[i] l[i+1]:=cmpL_swap _ _
   by_cases c1:orderP l[i] l[i+1]=1
   ·rw [if_pos (decide_eq_true (by omega)),if_pos c1]
   ·have c2: ¬orderP l[i+1] l[i] < 0:=by
     rcases cmpL_one l[i].data.toList l[i+1].data.toList with h|h|h
     ·have:orderP l[i] l[i+1]=0:=h
      omega
     ·exact absurd h c1
     ·have:orderP l[i] l[i+1]= -1:=h
      omega
    rw [if_neg (by rw [decide_eq_false c2];decide),if_neg c1,if_pos (by omega),if_pos (by omega),if_pos (by omega),w64 (n:=((i+1:Nat):Int) - 1) (by omega) (by omega),show ((i+1:Nat):Int) - 1=(i:Int) by omega,if_pos (by omega),if_pos (by omega),rdOf_at l (i+1) hil,rdOf_at l i hlt,toList_data,toList_data]
    by_cases c0:orderP l[i] l[i+1]=0
    ·rw [if_pos ((cmpL_zero _ _).1 c0).symm,if_pos c0]
    ·rw [if_neg (fun e=>c0 ((cmpL_zero _ _).2 e.symm)),if_neg c0,refWithin _ _ (by omega),Option.bind_some]
     by_cases cw:withinP l[i+1] l[i]=true
     ·rw [if_pos cw,if_pos cw]
     ·rw [if_neg cw,if_neg cw,w64 (by omega) (by omega),show ((i+1:Nat):Int)+1=((i+1+1:Nat):Int) by omega]
      exact ih k (i+1) (by omega) (by omega) hil hs1
  ·rw [if_neg hp,if_neg hp]
theorem refPaths (k:Nat) (l:List ByteArray) (hk:1600≤k):barqueref09_together.f k l=some (pathsP l):=by
 unfold barqueref09_together.f pathsP
 by_cases h:(l.length:Int) > 256
 ·rw [if_pos h,if_pos h]
 ·rw [if_neg h,if_neg h]
  obtain ⟨k,rfl⟩: ∃m,k=m+2:=⟨k - 2,by omega⟩
  cases l with
  |nil=>rw [barqueref09_together.l0,if_neg (by simp)];rfl
  |cons s t=>
   have hl0:(0:Nat) < (s::t).length:=by simp
   have e0:rdOf ByteArray.empty (s::t) 0=s:=rdOf_at (s::t) 0 hl0
   rw [barqueref09_together.l0,if_pos (by rw [List.length_cons];omega),if_pos (by omega),e0,refPath (k+1) _ (by omega),Option.bind_some]
   rw [goP]
   by_cases hp:pathP s=0
   ·rw [if_pos hp,if_neg (by omega),barqueref09_together.j1,if_neg (by decide),if_neg (by omega),w64 (by omega) (by omega),if_pos hp]
    have:=refPaths_go (s::t) (by omega) t.length k 0 (by rw [List.length_cons];omega) (by rw [List.length_cons] at h;omega) hl0 (pathP_zero hp)
    simpa using this
   ·rw [if_neg hp,if_neg hp]
end Go.Proofs.YthejnffhfmdpnaaDoor.Spec

end

section
namespace Go.Proofs.YthejnffhfmdpnaaDoor.Q
open Go.RowKit Go.Proofs.YthejnffhfmdpnaaDoorW.PrintWords Go.Proofs.YthejnffhfmdpnaaDoorW.PrintLast Go.Proofs.YthejnffhfmdpnaaDoorW.PrintMore
attribute [local go_sem] min2_int min_two
set_option linter.unusedVariables false
set_option linter.unusedSimpArgs false
def tree_mode.f (a0:Int):Option (Bool):=if a0≥0 then (some (decide (a0≤511))) else (some false)
set_option maxHeartbeats 8000000 in
set_option maxRecDepth 100000 in
theorem tree_mode.calls (a0:Int) (r:Bool) (w:World) (h:tree_mode.f a0=some r):
  Calls Tryd.prog 61 #[.int .i64 a0] w fun e w'=>e= .returned (.bool r)∧Drawn0 w w':=by
 have H:(if a0≥0 then (some (decide (a0≤511))) else (some false))=some r:=h
 clear h
 by_cases c2:a0≥0
 ·rw [if_pos c2] at H
  have c2b0:decide (0≤a0)=true:=decide_eq_true c2
  clear c2
  obtain rfl:=Option.some.inj H
  go_enter Tryd.func61,Tryd.ntmps61
  go_wp2
  go_ret
  exact ⟨by first|rfl|(simp;done)|(simp [*];done),by repeat (first|exact Drawn0.refl _|apply Drawn0.step)⟩
 ·rw [if_neg c2] at H
  have c2b0:decide (0≤a0)=false:=decide_eq_false c2
  clear c2
  obtain rfl:=Option.some.inj H
  go_enter Tryd.func61,Tryd.ntmps61
  go_wp2
  go_ret
  exact ⟨by first|rfl|(simp;done)|(simp [*];done),by repeat (first|exact Drawn0.refl _|apply Drawn0.step)⟩
end Go.Proofs.YthejnffhfmdpnaaDoor.Q

end

section
namespace Go.Proofs.YthejnffhfmdpnaaDoor.Q
open Go.RowKit Go.Proofs.YthejnffhfmdpnaaDoorW.PrintWords Go.Proofs.YthejnffhfmdpnaaDoorW.PrintLast Go.Proofs.YthejnffhfmdpnaaDoorW.PrintMore
attribute [local go_sem] min2_int min_two
set_option linter.unusedVariables false
set_option linter.unusedSimpArgs false
mutual
def tree_Check.l0:Nat→List (S66)→List ByteArray→List (S66)→Int→Int→Option (Int)
 |0,_,_,_,_,_=>none
 |k+1,x0,x3,x9,x10,x11=>if x11 < x10 then (if 0≤x11 then (if x11 < (x9.length:Int) then (if x3.length < 8796093022208 then (tree_Check.l0 k x0 (x3++[(rd_T66 x9 x11).f0]) x9 x10 (wrap64 (x11+1))) else (none)) else (none)) else (none)) else ((tree_paths.f k x3).bind fun t335=>(if t335=0 then (tree_Check.l1 k x0 (x0.length:Int) 0) else (some t335)))
def tree_Check.l1:Nat→List (S66)→Int→Int→Option (Int)
 |0,_,_,_=>none
 |k+1,x26,x27,x28=>if x28 < x27 then (if 0≤x28 then (if x28 < (x26.length:Int) then ((tree_mode.f ((rd_T66 x26 x28).f1)).bind fun t338=>(if t338=true then (if (((rd_T66 x26 x28).f2).size:Int) > 65536 then (some 4) else (tree_Check.l1 k x26 x27 (wrap64 (x28+1)))) else (some 11))) else (none)) else (none)) else (some 0)
end
def tree_Check.f (k:Nat) (l0:List (S66)):Option (Int):=tree_Check.l0 k l0 ([]:List ByteArray) l0 (l0.length:Int) 0
set_option maxHeartbeats 8000000 in
set_option maxRecDepth 100000 in
theorem tree_Check.calls (k:Nat) (A0:Option Addr) (c0:Nat) (l0:List (S66)) (r:Int) (w:World) (hr0:Kd.C k66 w A0 l0.length l0) (hc0:l0.length≤c0) (h:tree_Check.f k l0=some r):
  Calls Tryd.prog 46 #[.slice A0 l0.length c0] w fun e w'=>e= .returned (.int .i64 r)∧Below w.heap.size w w':=by
 have hu66:=Tryd.underlying66
 have HR0:=Aside0.mk hr0
 have HC0:=Aside0.mk hc0
 clear hr0 hc0
 have HB:=Aside0.mk (Below.refl w.heap.size w)
 have H:(tree_Check.l0 k l0 ([]:List ByteArray) l0 (l0.length:Int) 0)=some r:=h
 clear h
 have H':=Aside0.mk H
 clear H
 go_enter Tryd.func46,Tryd.ntmps46
 go_wp2
 go_loopg [3,11] k (fun kq v3 v11 w'=> ∃(x3_1:List ByteArray) (x11_1:Int),v11= .int .i64 x11_1∧Aside0 (tree_Check.l0 kq l0 x3_1 l0 (l0.length:Int) x11_1=some r)∧Aside0 (kq≤k)∧Aside0 (Kd.R Kd.string 9 w' w.heap.size (fun _=>True) v3 x3_1)∧Aside0 (Below w.heap.size w w'))
 case atStart=>exact ⟨(([]:List ByteArray)),(0),(by first|rfl|(simp;done)|(simp [*];done)),H',⟨Nat.le_refl _⟩,⟨by first|exact Kd.R_nil _ _ _ _ _|exact Kd.N_nil _ _ _ _ _|exact Kd.V_nil _ _ _ _ _|exact Kd.Q_nil _ _ _ _ _|exact Kd.S_nil _ _ _ _ _⟩,⟨by repeat (first|(with_reducible first|exact HB.out|apply below_alloc|apply pw_below_drewN|apply below_drew1)|exact HB.out)⟩⟩
 case round=>
  clear H'
  obtain ⟨x3_1,x11_1,rfl,HA,HK1,HO_3,HB⟩:=hrel
  cases gk with
  |zero=>exact absurd HA.out (by simp [tree_Check.l0])
  |succ k1=>
   have H:=HA.out
   clear HA
   simp only [tree_Check.l0] at H
   by_cases c2:x11_1 < (l0.length:Int)
   ·rw [if_pos c2] at H
    have c2b0:decide (x11_1 < (l0.length:Int))=true:=decide_eq_true c2
    clear c2
    by_cases c3:0≤x11_1
    ·rw [if_pos c3] at H
     have c3b0:decide (0≤x11_1)=true:=decide_eq_true c3
     clear c3
     by_cases c4:x11_1 < (l0.length:Int)
     ·rw [if_pos c4] at H
      have c4b0:decide (x11_1 < (l0.length:Int))=true:=decide_eq_true c4
      clear c4
      by_cases c5:x3_1.length < 8796093022208
      ·rw [if_pos c5] at H
       have LMc5:=Aside0.mk c5
       clear c5
       obtain ⟨y332,hy332⟩: ∃y_:List ByteArray,y_=(x3_1++[(rd_T66 l0 x11_1).f0]):=⟨_,rfl⟩
       replace H:(tree_Check.l0 k1 l0 y332 l0 (l0.length:Int) (wrap64 (x11_1+1)))=some r:=by first|(rw [hy332];with_reducible exact H)|(have H2_:=(Option.bind_some _ _).symm.trans H;rw [hy332];with_reducible exact H2_)|(have H2_:=(Option.bind_some _ _).symm.trans H;with_reducible exact H2_)|with_reducible exact H|(rw [hy332];exact H)|exact H
       have Ny332:=Aside0.mk hy332
       clear hy332
       have H':=Aside0.mk H
       clear H
       have p330:0≤(x11_1:Int):=of_decide_eq_true (by assumption)
       have q330:x11_1 < (l0.length:Int):=of_decide_eq_true (by assumption)
       obtain ⟨ad330,e330,hx330_0,hx330_1,hx330_2⟩:=at_T66 HR0.out x11_1 p330 q330
       cases e330
       replace hx330_0:=(HB.out.cell (World.block_lt_of_cell? w _ hx330_0)).trans hx330_0
       replace hx330_1:=(HB.out.cell (World.block_lt_of_cell? w _ hx330_1)).trans hx330_1
       replace hx330_2:=(HB.out.cell (World.block_lt_of_cell? w _ hx330_2)).trans hx330_2
       replace p330:=eq_true p330
       replace q330:=eq_true q330
       go_wp2_with (first|((with_reducible refine gate_dst (N:=5) rfl ?_);refine box_event ?hg (N:=5) ?hd (cs:=#[.string (⟨#[]⟩:ByteArray), .int .i64 0, .string (⟨#[]⟩:ByteArray)]) (t:=66) ?hr ?_;(case hd=>rfl);(case hg=>rfl);(case hr=>first|(go_simp;done)|(go_simp;rfl));intro gb331 hg w6 hbox hb;have n0_:=Aside0.mk (Kd.R_below (by (with_reducible repeat (first|apply Kd.R_alloc|apply Kd.R_drewN|apply Kd.R_drew));exact HO_3.out) hb);have n1_:=Aside0.mk (below_step (by repeat (first|(with_reducible first|exact HB.out|apply below_alloc|apply pw_below_drewN|apply below_drew1)|exact HB.out)) hb);have n2_:=Aside0.mk (hbox);have n3_:=Aside0.mk ((by rw [hg];exact (below_size (by repeat (first|(with_reducible first|exact HB.out|apply below_alloc|apply pw_below_drewN|apply below_drew1)|exact HB.out))):w.heap.size≤gb331));have n4_:=Aside0.mk ((by rw [hg];exact (below_size (by repeat (first|(with_reducible first|exact HB.out|apply below_alloc|apply pw_below_drewN|apply below_drew1)|exact HB.out))):w.heap.size≤gb331));clear HO_3;clear HB;have HO_3:=n0_;have HB:=n1_;have BK331:=n2_;have GW331:=n3_;have GE331:=n4_;clear n0_ n1_ n2_ n3_ n4_;clear hb hbox hg;have hcz7_0:w6.cell? ⟨gb331,0,none⟩=some (.string (⟨#[]⟩:ByteArray)):=(blk_cell BK331.out 0).trans rfl;have hcz7_1:w6.cell? ⟨gb331,1,none⟩=some (.int .i64 0):=(blk_cell BK331.out 1).trans rfl;have hcz7_2:w6.cell? ⟨gb331,2,none⟩=some (.string (⟨#[]⟩:ByteArray)):=(blk_cell BK331.out 2).trans rfl;have hfz7_0:=blk_frozen BK331.out 0;have hfz7_1:=blk_frozen BK331.out 1;have hfz7_2:=blk_frozen BK331.out 2)|((with_reducible refine gate_builtin (b:= .append) (xs:=#[.tmp 15, .tmp 18]) rfl ?_);at_builtin;refine Kd.R_append Kd.string (w0:=w) w.heap.size rfl (.tmp 15) (.tmp 18) 31 9 (.string ⟨#[]⟩) 16 rfl Tryd.underlying31 info9 rfl (by decide) (by omega) u3 x3_1 ((rd_T66 l0 x11_1).f0) [.string ((rd_T66 l0 x11_1).f0)] (fun _=>True) (fun _=>False) rfl (by first|(go_simp;done)|(go_simp;rfl)) ?aP (fun _ hk=>hk.elim) ?aF ?aO ?aB ?aS ?aL ?_;(case aP=>exact rfl);(case aB=>exact (by repeat (first|(with_reducible first|exact HB.out|apply below_alloc|apply pw_below_drewN|apply below_drew1|refine below_set ?_ GE331.out)|exact HB.out)));(case aF=>exact (fun _ _=>trivial));(case aO=>exact (by (with_reducible repeat (first|apply Kd.R_alloc|apply Kd.R_drewN|apply Kd.R_drew));exact Kd.R_mono (Kd.R_far (p:=⟨gb331,2,none⟩) (Kd.R_far (p:=⟨gb331,1,none⟩) (Kd.R_far (p:=⟨gb331,0,none⟩) (Kd.R_types HO_3.out BK331.out (by decide)) (fun _ hk=>hk.2) (.string ((rd_T66 l0 x11_1).f0))) (fun _ hk=>hk.2) (.int .i64 ((rd_T66 l0 x11_1).f1))) (fun _ hk=>hk.2) (.string ((rd_T66 l0 x11_1).f2))) (fun _ hk=>trivial)));(case aS=>exact (below_size (by repeat (first|(with_reducible first|exact HB.out|apply below_alloc|apply pw_below_drewN|apply below_drew1|refine below_set ?_ GE331.out)|exact HB.out))));(case aL=>have:=LMc5.out;omega);intro v333 w8 ho hb hg hat;rw [← Ny332.out] at ho;have n0_:=Aside0.mk (blk_grown (g:=gb331) (o:= .cells #[.string ((rd_T66 l0 x11_1).f0), .int .i64 ((rd_T66 l0 x11_1).f1), .string ((rd_T66 l0 x11_1).f2)] 66 (0,0)) (by (with_reducible repeat (first|refine blk_drewN ?_ _|refine blk_drew ?_|refine blk_alloc ?_ _));refine blk_put (cs:=#[.string ((rd_T66 l0 x11_1).f0), .int .i64 ((rd_T66 l0 x11_1).f1), .string (⟨#[]⟩:ByteArray)]) ?_ 2 _ rfl;(with_reducible repeat (first|refine blk_drewN ?_ _|refine blk_drew ?_|refine blk_alloc ?_ _));refine blk_put (cs:=#[.string ((rd_T66 l0 x11_1).f0), .int .i64 0, .string (⟨#[]⟩:ByteArray)]) ?_ 1 _ rfl;(with_reducible repeat (first|refine blk_drewN ?_ _|refine blk_drew ?_|refine blk_alloc ?_ _));refine blk_put (cs:=#[.string (⟨#[]⟩:ByteArray), .int .i64 0, .string (⟨#[]⟩:ByteArray)]) ?_ 0 _ rfl;(with_reducible repeat (first|refine blk_drewN ?_ _|refine blk_drew ?_|refine blk_alloc ?_ _));exact BK331.out) hg (Kd.R_ne HO_3.out BK331.out (by decide)));have n1_:=Aside0.mk (hb);have n2_:=Aside0.mk (ho);clear BK331;clear HB;clear HO_3;have BK331:=n0_;have HB:=n1_;have HO334:=n2_;clear n0_ n1_ n2_;clear ho hb hg hat))
       go_roundg k1
       case measure=>have:=HK1.out;omega
       case rel=>exact ⟨(y332),(wrap64 (x11_1+1)),(by first|rfl|(simp;done)|(simp [*];done)),H',⟨by have:=HK1.out;omega⟩,⟨by (with_reducible repeat (first|apply Kd.R_alloc|apply Kd.R_drewN|apply Kd.R_drew));exact HO334.out⟩,⟨by repeat (first|(with_reducible first|exact HB.out|apply below_alloc|apply pw_below_drewN|apply below_drew1|refine below_set ?_ GE331.out)|exact HB.out)⟩⟩
      ·rw [if_neg c5] at H
       exact absurd H (by simp)
     ·rw [if_neg c4] at H
      exact absurd H (by simp)
    ·rw [if_neg c3] at H
     exact absurd H (by simp)
   ·rw [if_neg c2] at H
    have c2b0:decide (x11_1 < (l0.length:Int))=false:=decide_eq_false c2
    clear c2
    replace H:=Option.bind_eq_some_iff.mp H
    obtain ⟨t335,A90,H⟩:=H
    replace H:(if t335=0 then (tree_Check.l1 k1 l0 (l0.length:Int) 0) else (some t335))=some r:=H
    have A9:=Aside0.mk A90
    clear A90
    by_cases c10:t335=0
    ·rw [if_pos c10] at H
     have c10b0:(t335 == 0)=true:=beq_iff_eq.mpr c10
     have c10b1:(t335 != 0)=false:=bne_eq_false_iff_eq.mpr c10
     clear c10
     have H':=Aside0.mk H
     clear H
     obtain ⟨Ao11,co11,eo11⟩:=Kd.R_slice HO_3.out
     subst eo11
     go_wp2_with (first|((with_reducible refine gate_callee (f:=60) rfl ?_);refine goesL_ (some 22) rfl rfl Tryd.func60 (by kernel_rfl) rfl #[.slice Ao11 x3_1.length co11] rfl (by (try simp only [List.map_toArray,List.map_cons,List.map_nil]);try rfl) ?_;(with_reducible refine (tree_paths.calls k1 _ _ x3_1 t335 _ ?side1 ?side2 A9.out).mono ?_);(case side1=>repeat (first|exact (Kd.R_reads' HO_3.out).2.2|(with_reducible refine Kd.C_alloc ?_ _)|(with_reducible refine Kd.C_drewN ?_ _)|(with_reducible refine Kd.C_drew ?_)));(case side2=>exact (Kd.R_reads' HO_3.out).2.1);rintro e w12 ⟨rfl,hb⟩;refine ⟨_,rfl,?_⟩;have n0_:=Aside0.mk (Kd.R_below (by (with_reducible repeat (first|apply Kd.R_alloc|apply Kd.R_drewN|apply Kd.R_drew));exact HO_3.out) hb);have n1_:=Aside0.mk (below_step (by repeat (first|(with_reducible first|exact HB.out|apply below_alloc|apply pw_below_drewN|apply below_drew1)|exact HB.out)) hb);clear HO_3;clear HB;have HO_3:=n0_;have HB:=n1_;clear n0_ n1_))
     go_loopg [28] k1 (fun kq v28 w'=> ∃(x28_2:Int),v28= .int .i64 x28_2∧Aside0 (tree_Check.l1 kq l0 (l0.length:Int) x28_2=some r)∧Aside0 (kq≤k1)∧Aside0 (Below w.heap.size w w'))
     case atStart=>exact ⟨(0),(by first|rfl|(simp;done)|(simp [*];done)),H',⟨Nat.le_refl _⟩,⟨by repeat (first|(with_reducible first|exact HB.out|apply below_alloc|apply pw_below_drewN|apply below_drew1)|exact HB.out)⟩⟩
     case round=>
      clear H'
      obtain ⟨x28_2,rfl,HA,HK2,HB⟩:=hrel
      cases gk with
      |zero=>exact absurd HA.out (by simp [tree_Check.l1])
      |succ k2=>
       have H:=HA.out
       clear HA
       simp only [tree_Check.l1] at H
       by_cases c13:x28_2 < (l0.length:Int)
       ·rw [if_pos c13] at H
        have c13b0:decide (x28_2 < (l0.length:Int))=true:=decide_eq_true c13
        clear c13
        by_cases c14:0≤x28_2
        ·rw [if_pos c14] at H
         have c14b0:decide (0≤x28_2)=true:=decide_eq_true c14
         clear c14
         by_cases c15:x28_2 < (l0.length:Int)
         ·rw [if_pos c15] at H
          have c15b0:decide (x28_2 < (l0.length:Int))=true:=decide_eq_true c15
          clear c15
          replace H:=Option.bind_eq_some_iff.mp H
          obtain ⟨t338,A160,H⟩:=H
          replace H:(if t338=true then (if (((rd_T66 l0 x28_2).f2).size:Int) > 65536 then (some 4) else (tree_Check.l1 k2 l0 (l0.length:Int) (wrap64 (x28_2+1)))) else (some 11))=some r:=H
          have A16:=Aside0.mk A160
          clear A160
          by_cases c17:t338=true
          ·subst c17
           have H1:(if (((rd_T66 l0 x28_2).f2).size:Int) > 65536 then (some 4) else (tree_Check.l1 k2 l0 (l0.length:Int) (wrap64 (x28_2+1))))=some r:=by rw [if_pos rfl] at H;exact H
           clear H
           have H:=H1
           clear H1
           by_cases c18:(((rd_T66 l0 x28_2).f2).size:Int) > 65536
           ·rw [if_pos c18] at H
            have c18b0:decide (65536 < (((rd_T66 l0 x28_2).f2).size:Int))=true:=decide_eq_true c18
            have c18b1:decide (65536 < ((rd_T66 l0 x28_2).f2).size)=true:=decide_eq_true (by omega)
            clear c18
            obtain rfl:=Option.some.inj H
            have p336:0≤(x28_2:Int):=of_decide_eq_true (by assumption)
            have q336:x28_2 < (l0.length:Int):=of_decide_eq_true (by assumption)
            obtain ⟨ad336,e336,hx336_0,hx336_1,hx336_2⟩:=at_T66 HR0.out x28_2 p336 q336
            cases e336
            replace hx336_0:=(HB.out.cell (World.block_lt_of_cell? w _ hx336_0)).trans hx336_0
            replace hx336_1:=(HB.out.cell (World.block_lt_of_cell? w _ hx336_1)).trans hx336_1
            replace hx336_2:=(HB.out.cell (World.block_lt_of_cell? w _ hx336_2)).trans hx336_2
            replace p336:=eq_true p336
            replace q336:=eq_true q336
            go_wp2_with (first|((with_reducible refine gate_dst (N:=8) rfl ?_);refine box_event ?hg (N:=8) ?hd (cs:=#[.string (⟨#[]⟩:ByteArray), .int .i64 0, .string (⟨#[]⟩:ByteArray)]) (t:=66) ?hr ?_;(case hd=>rfl);(case hg=>rfl);(case hr=>first|(go_simp;done)|(go_simp;rfl));intro gb337 hg w19 hbox hb;have n0_:=Aside0.mk (below_step (by repeat (first|(with_reducible first|exact HB.out|apply below_alloc|apply pw_below_drewN|apply below_drew1)|exact HB.out)) hb);have n1_:=Aside0.mk (hbox);have n2_:=Aside0.mk ((by rw [hg];exact (below_size (by repeat (first|(with_reducible first|exact HB.out|apply below_alloc|apply pw_below_drewN|apply below_drew1)|exact HB.out))):w.heap.size≤gb337));have n3_:=Aside0.mk ((by rw [hg];exact (below_size (by repeat (first|(with_reducible first|exact HB.out|apply below_alloc|apply pw_below_drewN|apply below_drew1)|exact HB.out))):w.heap.size≤gb337));clear HB;have HB:=n0_;have BK337:=n1_;have GW337:=n2_;have GE337:=n3_;clear n0_ n1_ n2_ n3_;clear hb hbox hg;have hcz20_0:w19.cell? ⟨gb337,0,none⟩=some (.string (⟨#[]⟩:ByteArray)):=(blk_cell BK337.out 0).trans rfl;have hcz20_1:w19.cell? ⟨gb337,1,none⟩=some (.int .i64 0):=(blk_cell BK337.out 1).trans rfl;have hcz20_2:w19.cell? ⟨gb337,2,none⟩=some (.string (⟨#[]⟩:ByteArray)):=(blk_cell BK337.out 2).trans rfl;have hfz20_0:=blk_frozen BK337.out 0;have hfz20_1:=blk_frozen BK337.out 1;have hfz20_2:=blk_frozen BK337.out 2)|((with_reducible refine gate_callee (f:=61) rfl ?_);refine goesL_ (some 35) rfl rfl Tryd.func61 (by kernel_rfl) rfl #[.int .i64 ((rd_T66 l0 x28_2).f1)] rfl (by (try simp only [List.map_toArray,List.map_cons,List.map_nil]);try rfl) ?_;(with_reducible refine (tree_mode.calls ((rd_T66 l0 x28_2).f1) true _ A16.out).mono ?_);rintro e w' ⟨rfl,⟨nd,rfl⟩⟩;refine ⟨_,rfl,?_⟩))
            go_ret
            exact ⟨by first|rfl|(simp [errW_none]<;>rfl)|(simp [*]<;>rfl),by repeat (first|(with_reducible first|exact HB.out|apply below_alloc|apply pw_below_drewN|apply below_drew1|refine below_set ?_ GE337.out)|exact HB.out)⟩
           ·rw [if_neg c18] at H
            have c18b0:decide (65536 < (((rd_T66 l0 x28_2).f2).size:Int))=false:=decide_eq_false c18
            have c18b1:decide (65536 < ((rd_T66 l0 x28_2).f2).size)=false:=decide_eq_false (by omega)
            clear c18
            have H':=Aside0.mk H
            clear H
            have p336:0≤(x28_2:Int):=of_decide_eq_true (by assumption)
            have q336:x28_2 < (l0.length:Int):=of_decide_eq_true (by assumption)
            obtain ⟨ad336,e336,hx336_0,hx336_1,hx336_2⟩:=at_T66 HR0.out x28_2 p336 q336
            cases e336
            replace hx336_0:=(HB.out.cell (World.block_lt_of_cell? w _ hx336_0)).trans hx336_0
            replace hx336_1:=(HB.out.cell (World.block_lt_of_cell? w _ hx336_1)).trans hx336_1
            replace hx336_2:=(HB.out.cell (World.block_lt_of_cell? w _ hx336_2)).trans hx336_2
            replace p336:=eq_true p336
            replace q336:=eq_true q336
            go_wp2_with (first|((with_reducible refine gate_dst (N:=8) rfl ?_);refine box_event ?hg (N:=8) ?hd (cs:=#[.string (⟨#[]⟩:ByteArray), .int .i64 0, .string (⟨#[]⟩:ByteArray)]) (t:=66) ?hr ?_;(case hd=>rfl);(case hg=>rfl);(case hr=>first|(go_simp;done)|(go_simp;rfl));intro gb337 hg w21 hbox hb;have n0_:=Aside0.mk (below_step (by repeat (first|(with_reducible first|exact HB.out|apply below_alloc|apply pw_below_drewN|apply below_drew1)|exact HB.out)) hb);have n1_:=Aside0.mk (hbox);have n2_:=Aside0.mk ((by rw [hg];exact (below_size (by repeat (first|(with_reducible first|exact HB.out|apply below_alloc|apply pw_below_drewN|apply below_drew1)|exact HB.out))):w.heap.size≤gb337));have n3_:=Aside0.mk ((by rw [hg];exact (below_size (by repeat (first|(with_reducible first|exact HB.out|apply below_alloc|apply pw_below_drewN|apply below_drew1)|exact HB.out))):w.heap.size≤gb337));clear HB;have HB:=n0_;have BK337:=n1_;have GW337:=n2_;have GE337:=n3_;clear n0_ n1_ n2_ n3_;clear hb hbox hg;have hcz22_0:w21.cell? ⟨gb337,0,none⟩=some (.string (⟨#[]⟩:ByteArray)):=(blk_cell BK337.out 0).trans rfl;have hcz22_1:w21.cell? ⟨gb337,1,none⟩=some (.int .i64 0):=(blk_cell BK337.out 1).trans rfl;have hcz22_2:w21.cell? ⟨gb337,2,none⟩=some (.string (⟨#[]⟩:ByteArray)):=(blk_cell BK337.out 2).trans rfl;have hfz22_0:=blk_frozen BK337.out 0;have hfz22_1:=blk_frozen BK337.out 1;have hfz22_2:=blk_frozen BK337.out 2)|((with_reducible refine gate_callee (f:=61) rfl ?_);refine goesL_ (some 35) rfl rfl Tryd.func61 (by kernel_rfl) rfl #[.int .i64 ((rd_T66 l0 x28_2).f1)] rfl (by (try simp only [List.map_toArray,List.map_cons,List.map_nil]);try rfl) ?_;(with_reducible refine (tree_mode.calls ((rd_T66 l0 x28_2).f1) true _ A16.out).mono ?_);rintro e w' ⟨rfl,⟨nd,rfl⟩⟩;refine ⟨_,rfl,?_⟩))
            go_roundg k2
            case measure=>have:=HK1.out;have:=HK2.out;omega
            case rel=>exact ⟨(wrap64 (x28_2+1)),(by first|rfl|(simp;done)|(simp [*];done)),H',⟨by have:=HK1.out;have:=HK2.out;omega⟩,⟨by repeat (first|(with_reducible first|exact HB.out|apply below_alloc|apply pw_below_drewN|apply below_drew1|refine below_set ?_ GE337.out)|exact HB.out)⟩⟩
          ·replace c17:=Bool.eq_false_iff.mpr c17
           subst c17
           have H1:(some 11)=some r:=by rw [if_neg (show ¬(false=true) by decide)] at H;exact H
           clear H
           have H:=H1
           clear H1
           obtain rfl:=Option.some.inj H
           have p336:0≤(x28_2:Int):=of_decide_eq_true (by assumption)
           have q336:x28_2 < (l0.length:Int):=of_decide_eq_true (by assumption)
           obtain ⟨ad336,e336,hx336_0,hx336_1,hx336_2⟩:=at_T66 HR0.out x28_2 p336 q336
           cases e336
           replace hx336_0:=(HB.out.cell (World.block_lt_of_cell? w _ hx336_0)).trans hx336_0
           replace hx336_1:=(HB.out.cell (World.block_lt_of_cell? w _ hx336_1)).trans hx336_1
           replace hx336_2:=(HB.out.cell (World.block_lt_of_cell? w _ hx336_2)).trans hx336_2
           replace p336:=eq_true p336
           replace q336:=eq_true q336
           go_wp2_with (first|((with_reducible refine gate_dst (N:=8) rfl ?_);refine box_event ?hg (N:=8) ?hd (cs:=#[.string (⟨#[]⟩:ByteArray), .int .i64 0, .string (⟨#[]⟩:ByteArray)]) (t:=66) ?hr ?_;(case hd=>rfl);(case hg=>rfl);(case hr=>first|(go_simp;done)|(go_simp;rfl));intro gb337 hg w23 hbox hb;have n0_:=Aside0.mk (below_step (by repeat (first|(with_reducible first|exact HB.out|apply below_alloc|apply pw_below_drewN|apply below_drew1)|exact HB.out)) hb);have n1_:=Aside0.mk (hbox);have n2_:=Aside0.mk ((by rw [hg];exact (below_size (by repeat (first|(with_reducible first|exact HB.out|apply below_alloc|apply pw_below_drewN|apply below_drew1)|exact HB.out))):w.heap.size≤gb337));have n3_:=Aside0.mk ((by rw [hg];exact (below_size (by repeat (first|(with_reducible first|exact HB.out|apply below_alloc|apply pw_below_drewN|apply below_drew1)|exact HB.out))):w.heap.size≤gb337));clear HB;have HB:=n0_;have BK337:=n1_;have GW337:=n2_;have GE337:=n3_;clear n0_ n1_ n2_ n3_;clear hb hbox hg;have hcz24_0:w23.cell? ⟨gb337,0,none⟩=some (.string (⟨#[]⟩:ByteArray)):=(blk_cell BK337.out 0).trans rfl;have hcz24_1:w23.cell? ⟨gb337,1,none⟩=some (.int .i64 0):=(blk_cell BK337.out 1).trans rfl;have hcz24_2:w23.cell? ⟨gb337,2,none⟩=some (.string (⟨#[]⟩:ByteArray)):=(blk_cell BK337.out 2).trans rfl;have hfz24_0:=blk_frozen BK337.out 0;have hfz24_1:=blk_frozen BK337.out 1;have hfz24_2:=blk_frozen BK337.out 2)|((with_reducible refine gate_callee (f:=61) rfl ?_);refine goesL_ (some 35) rfl rfl Tryd.func61 (by kernel_rfl) rfl #[.int .i64 ((rd_T66 l0 x28_2).f1)] rfl (by (try simp only [List.map_toArray,List.map_cons,List.map_nil]);try rfl) ?_;(with_reducible refine (tree_mode.calls ((rd_T66 l0 x28_2).f1) false _ A16.out).mono ?_);rintro e w' ⟨rfl,⟨nd,rfl⟩⟩;refine ⟨_,rfl,?_⟩))
           go_ret
           exact ⟨by first|rfl|(simp [errW_none]<;>rfl)|(simp [*]<;>rfl),by repeat (first|(with_reducible first|exact HB.out|apply below_alloc|apply pw_below_drewN|apply below_drew1|refine below_set ?_ GE337.out)|exact HB.out)⟩
         ·rw [if_neg c15] at H
          exact absurd H (by simp)
        ·rw [if_neg c14] at H
         exact absurd H (by simp)
       ·rw [if_neg c13] at H
        have c13b0:decide (x28_2 < (l0.length:Int))=false:=decide_eq_false c13
        clear c13
        obtain rfl:=Option.some.inj H
        go_wp2
        go_ret
        exact ⟨by first|rfl|(simp [errW_none]<;>rfl)|(simp [*]<;>rfl),by repeat (first|(with_reducible first|exact HB.out|apply below_alloc|apply pw_below_drewN|apply below_drew1)|exact HB.out)⟩
    ·rw [if_neg c10] at H
     have c10b0:(t335 == 0)=false:=beq_eq_false_iff_ne.mpr c10
     have c10b1:(t335 != 0)=true:=bne_iff_ne.mpr c10
     obtain rfl:=Option.some.inj H
     obtain ⟨Ao25,co25,eo25⟩:=Kd.R_slice HO_3.out
     subst eo25
     go_wp2_with (first|((with_reducible refine gate_callee (f:=60) rfl ?_);refine goesL_ (some 22) rfl rfl Tryd.func60 (by kernel_rfl) rfl #[.slice Ao25 x3_1.length co25] rfl (by (try simp only [List.map_toArray,List.map_cons,List.map_nil]);try rfl) ?_;(with_reducible refine (tree_paths.calls k1 _ _ x3_1 t335 _ ?side1 ?side2 A9.out).mono ?_);(case side1=>repeat (first|exact (Kd.R_reads' HO_3.out).2.2|(with_reducible refine Kd.C_alloc ?_ _)|(with_reducible refine Kd.C_drewN ?_ _)|(with_reducible refine Kd.C_drew ?_)));(case side2=>exact (Kd.R_reads' HO_3.out).2.1);rintro e w26 ⟨rfl,hb⟩;refine ⟨_,rfl,?_⟩;have n0_:=Aside0.mk (Kd.R_below (by (with_reducible repeat (first|apply Kd.R_alloc|apply Kd.R_drewN|apply Kd.R_drew));exact HO_3.out) hb);have n1_:=Aside0.mk (below_step (by repeat (first|(with_reducible first|exact HB.out|apply below_alloc|apply pw_below_drewN|apply below_drew1)|exact HB.out)) hb);clear HO_3;clear HB;have HO_3:=n0_;have HB:=n1_;clear n0_ n1_))
     go_ret
     exact ⟨by first|rfl|(simp [errW_none]<;>rfl)|(simp [*]<;>rfl),by repeat (first|(with_reducible first|exact HB.out|apply below_alloc|apply pw_below_drewN|apply below_drew1)|exact HB.out)⟩
end Go.Proofs.YthejnffhfmdpnaaDoor.Q

end

section
namespace Go.Proofs.YthejnffhfmdpnaaDoor.Q
open Go.RowKit Go.Proofs.YthejnffhfmdpnaaDoorW.PrintWords Go.Proofs.YthejnffhfmdpnaaDoorW.PrintLast Go.Proofs.YthejnffhfmdpnaaDoorW.PrintMore
attribute [local go_sem] min2_int min_two
set_option linter.unusedVariables false
set_option linter.unusedSimpArgs false
mutual
def barqueref09_Check.l0:Nat→List (S66)→List ByteArray→Int→Option (Int)
 |0,_,_,_=>none
 |k+1,x0,x3,x4=>if x4 < (x0.length:Int) then (if 0≤x4 then (if x3.length < 8796093022208 then (barqueref09_Check.l0 k x0 (x3++[(rd_T66 x0 x4).f0]) (wrap64 (x4+1))) else (none)) else (none)) else ((barqueref09_together.f k x3).bind fun t208=>(if t208=0 then (barqueref09_Check.l1 k x0 0) else (some t208)))
def barqueref09_Check.l1:Nat→List (S66)→Int→Option (Int)
 |0,_,_=>none
 |k+1,x0,x6=>if x6 < (x0.length:Int) then (if 0≤x6 then (if ((rd_T66 x0 x6).f1) < 0 then (barqueref09_Check.j2 k x0 x6 true) else (barqueref09_Check.j2 k x0 x6 (decide (((rd_T66 x0 x6).f1) > 511)))) else (none)) else (some 0)
def barqueref09_Check.j2:Nat→List (S66)→Int→Bool→Option (Int)
 |0,_,_,_=>none
 |k+1,x0,x6,x45=>if x45=true then (some 11) else (if 0≤x6 then (if x6 < (x0.length:Int) then (if (((rd_T66 x0 x6).f2).size:Int) > 65536 then (some 4) else (barqueref09_Check.l1 k x0 (wrap64 (x6+1)))) else (none)) else (none))
end
def barqueref09_Check.f (k:Nat) (l0:List (S66)):Option (Int):=barqueref09_Check.l0 k l0 ([]:List ByteArray) 0
set_option maxHeartbeats 8000000 in
set_option maxRecDepth 100000 in
theorem barqueref09_Check.calls (k:Nat) (A0:Option Addr) (c0:Nat) (l0:List (S66)) (r:Int) (w:World) (hr0:Kd.C k66 w A0 l0.length l0) (hc0:l0.length≤c0) (h:barqueref09_Check.f k l0=some r):
  Calls Tryd.prog 42 #[.slice A0 l0.length c0] w fun e w'=>e= .returned (.int .i64 r)∧Below w.heap.size w w':=by
 have HR0:=Aside0.mk hr0
 have HC0:=Aside0.mk hc0
 clear hr0 hc0
 have HB:=Aside0.mk (Below.refl w.heap.size w)
 have H:(barqueref09_Check.l0 k l0 ([]:List ByteArray) 0)=some r:=h
 clear h
 have H':=Aside0.mk H
 clear H
 go_enter Tryd.func42,Tryd.ntmps42
 go_wp2
 go_loopg [3,4] k (fun kq v3 v4 w'=> ∃(x3_1:List ByteArray) (x4_1:Int),v4= .int .i64 x4_1∧Aside0 (barqueref09_Check.l0 kq l0 x3_1 x4_1=some r)∧Aside0 (kq≤k)∧Aside0 (Kd.R Kd.string 9 w' w.heap.size (fun _=>True) v3 x3_1)∧Aside0 (Below w.heap.size w w'))
 case atStart=>exact ⟨(([]:List ByteArray)),(0),(by first|rfl|(simp;done)|(simp [*];done)),H',⟨Nat.le_refl _⟩,⟨by first|exact Kd.R_nil _ _ _ _ _|exact Kd.N_nil _ _ _ _ _|exact Kd.V_nil _ _ _ _ _|exact Kd.Q_nil _ _ _ _ _|exact Kd.S_nil _ _ _ _ _⟩,⟨by repeat (first|(with_reducible first|exact HB.out|apply below_alloc|apply pw_below_drewN|apply below_drew1)|exact HB.out)⟩⟩
 case round=>
  clear H'
  obtain ⟨x3_1,x4_1,rfl,HA,HK1,HO_3,HB⟩:=hrel
  cases gk with
  |zero=>exact absurd HA.out (by simp [barqueref09_Check.l0])
  |succ k1=>
   have H:=HA.out
   clear HA
   simp only [barqueref09_Check.l0] at H
   by_cases c2:x4_1 < (l0.length:Int)
   ·rw [if_pos c2] at H
    have c2b0:decide (x4_1 < (l0.length:Int))=true:=decide_eq_true c2
    clear c2
    by_cases c3:0≤x4_1
    ·rw [if_pos c3] at H
     have c3b0:decide (0≤x4_1)=true:=decide_eq_true c3
     clear c3
     by_cases c4:x3_1.length < 8796093022208
     ·rw [if_pos c4] at H
      have LMc4:=Aside0.mk c4
      clear c4
      obtain ⟨y205,hy205⟩: ∃y_:List ByteArray,y_=(x3_1++[(rd_T66 l0 x4_1).f0]):=⟨_,rfl⟩
      replace H:(barqueref09_Check.l0 k1 l0 y205 (wrap64 (x4_1+1)))=some r:=by first|(rw [hy205];with_reducible exact H)|(have H2_:=(Option.bind_some _ _).symm.trans H;rw [hy205];with_reducible exact H2_)|(have H2_:=(Option.bind_some _ _).symm.trans H;with_reducible exact H2_)|with_reducible exact H|(rw [hy205];exact H)|exact H
      have Ny205:=Aside0.mk hy205
      clear hy205
      have H':=Aside0.mk H
      clear H
      have p204:0≤(x4_1:Int):=of_decide_eq_true (by assumption)
      have q204:x4_1 < (l0.length:Int):=of_decide_eq_true (by assumption)
      obtain ⟨ad204,e204,hx204_0,hx204_1,hx204_2⟩:=at_T66 HR0.out x4_1 p204 q204
      cases e204
      replace hx204_0:=(HB.out.cell (World.block_lt_of_cell? w _ hx204_0)).trans hx204_0
      replace hx204_1:=(HB.out.cell (World.block_lt_of_cell? w _ hx204_1)).trans hx204_1
      replace hx204_2:=(HB.out.cell (World.block_lt_of_cell? w _ hx204_2)).trans hx204_2
      replace p204:=eq_true p204
      replace q204:=eq_true q204
      go_wp2_with (first|((with_reducible refine gate_builtin (b:= .append) (xs:=#[.tmp 13, .tmp 19]) rfl ?_);at_builtin;refine Kd.R_append Kd.string (w0:=w) w.heap.size rfl (.tmp 13) (.tmp 19) 31 9 (.string ⟨#[]⟩) 16 rfl Tryd.underlying31 info9 rfl (by decide) (by omega) u3 x3_1 ((rd_T66 l0 x4_1).f0) [.string ((rd_T66 l0 x4_1).f0)] (fun _=>True) (fun _=>False) rfl rfl ?aP (fun _ hk=>hk.elim) ?aF ?aO ?aB ?aS ?aL ?_;(case aP=>exact rfl);(case aB=>exact (by repeat (first|(with_reducible first|exact HB.out|apply below_alloc|apply pw_below_drewN|apply below_drew1)|exact HB.out)));(case aF=>exact (fun _ _=>trivial));(case aO=>exact (by (with_reducible repeat (first|apply Kd.R_alloc|apply Kd.R_drewN|apply Kd.R_drew));exact HO_3.out));(case aS=>exact (below_size (by repeat (first|(with_reducible first|exact HB.out|apply below_alloc|apply pw_below_drewN|apply below_drew1)|exact HB.out))));(case aL=>have:=LMc4.out;omega);intro v206 w5 ho hb hg hat;rw [← Ny205.out] at ho;have n0_:=Aside0.mk (hb);have n1_:=Aside0.mk (ho);clear HB;clear HO_3;have HB:=n0_;have HO207:=n1_;clear n0_ n1_;clear ho hb hg hat))
      go_roundg k1
      case measure=>have:=HK1.out;omega
      case rel=>exact ⟨(y205),(wrap64 (x4_1+1)),(by first|rfl|(simp;done)|(simp [*];done)),H',⟨by have:=HK1.out;omega⟩,⟨by (with_reducible repeat (first|apply Kd.R_alloc|apply Kd.R_drewN|apply Kd.R_drew));exact HO207.out⟩,⟨by repeat (first|(with_reducible first|exact HB.out|apply below_alloc|apply pw_below_drewN|apply below_drew1)|exact HB.out)⟩⟩
     ·rw [if_neg c4] at H
      exact absurd H (by simp)
    ·rw [if_neg c3] at H
     exact absurd H (by simp)
   ·rw [if_neg c2] at H
    have c2b0:decide (x4_1 < (l0.length:Int))=false:=decide_eq_false c2
    clear c2
    replace H:=Option.bind_eq_some_iff.mp H
    obtain ⟨t208,A60,H⟩:=H
    replace H:(if t208=0 then (barqueref09_Check.l1 k1 l0 0) else (some t208))=some r:=H
    have A6:=Aside0.mk A60
    clear A60
    by_cases c7:t208=0
    ·rw [if_pos c7] at H
     have c7b0:(t208 == 0)=true:=beq_iff_eq.mpr c7
     have c7b1:(t208 != 0)=false:=bne_eq_false_iff_eq.mpr c7
     clear c7
     have H':=Aside0.mk H
     clear H
     obtain ⟨Ao8,co8,eo8⟩:=Kd.R_slice HO_3.out
     subst eo8
     go_wp2_with (first|((with_reducible refine gate_callee (f:=57) rfl ?_);refine goesL_ (some 22) rfl rfl Tryd.func57 (by kernel_rfl) rfl #[.slice Ao8 x3_1.length co8] rfl (by (try simp only [List.map_toArray,List.map_cons,List.map_nil]);try rfl) ?_;(with_reducible refine (barqueref09_together.calls k1 _ _ x3_1 t208 _ ?side1 ?side2 A6.out).mono ?_);(case side1=>repeat (first|exact (Kd.R_reads' HO_3.out).2.2|(with_reducible refine Kd.C_alloc ?_ _)|(with_reducible refine Kd.C_drewN ?_ _)|(with_reducible refine Kd.C_drew ?_)));(case side2=>exact (Kd.R_reads' HO_3.out).2.1);rintro e w9 ⟨rfl,hb⟩;refine ⟨_,rfl,?_⟩;have n0_:=Aside0.mk (Kd.R_below (by (with_reducible repeat (first|apply Kd.R_alloc|apply Kd.R_drewN|apply Kd.R_drew));exact HO_3.out) hb);have n1_:=Aside0.mk (below_step (by repeat (first|(with_reducible first|exact HB.out|apply below_alloc|apply pw_below_drewN|apply below_drew1)|exact HB.out)) hb);clear HO_3;clear HB;have HO_3:=n0_;have HB:=n1_;clear n0_ n1_))
     go_loopg [6] k1 (fun kq v6 w'=> ∃(x6_2:Int),v6= .int .i64 x6_2∧Aside0 (barqueref09_Check.l1 kq l0 x6_2=some r)∧Aside0 (kq≤k1)∧Aside0 (Below w.heap.size w w'))
     case atStart=>exact ⟨(0),(by first|rfl|(simp;done)|(simp [*];done)),H',⟨Nat.le_refl _⟩,⟨by repeat (first|(with_reducible first|exact HB.out|apply below_alloc|apply pw_below_drewN|apply below_drew1)|exact HB.out)⟩⟩
     case round=>
      clear H'
      obtain ⟨x6_2,rfl,HA,HK2,HB⟩:=hrel
      cases gk with
      |zero=>exact absurd HA.out (by simp [barqueref09_Check.l1])
      |succ k2=>
       have H:=HA.out
       clear HA
       simp only [barqueref09_Check.l1] at H
       by_cases c10:x6_2 < (l0.length:Int)
       ·rw [if_pos c10] at H
        have c10b0:decide (x6_2 < (l0.length:Int))=true:=decide_eq_true c10
        clear c10
        have HC11:=Aside0.mk H
        clear H
        go_upto_region 12 with (fail)
        go_cut [45] (fun v45 wc=> ∃(kq:Nat) (x45_10:Bool),v45= .bool x45_10∧Aside0 (barqueref09_Check.j2 kq l0 x6_2 x45_10=some r)∧Aside0 (kq≤k2)∧Aside0 (Below w.heap.size w wc))
        case first=>
         have H:=HC11.out
         clear HC11
         by_cases c12:0≤x6_2
         ·rw [if_pos c12] at H
          have c12b0:decide (0≤x6_2)=true:=decide_eq_true c12
          clear c12
          (first|rw [c12b0]|(simp only [i64_w];rw [c12b0])|skip)
          by_cases c13:((rd_T66 l0 x6_2).f1) < 0
          ·rw [if_pos c13] at H
           have c13b0:decide (((rd_T66 l0 x6_2).f1) < 0)=true:=decide_eq_true c13
           clear c13
           have H':=Aside0.mk H
           clear H
           have p209:0≤(x6_2:Int):=of_decide_eq_true (by assumption)
           have q209:x6_2 < (l0.length:Int):=of_decide_eq_true (by assumption)
           obtain ⟨ad209,e209,hx209_0,hx209_1,hx209_2⟩:=at_T66 HR0.out x6_2 p209 q209
           cases e209
           replace hx209_0:=(HB.out.cell (World.block_lt_of_cell? w _ hx209_0)).trans hx209_0
           replace hx209_1:=(HB.out.cell (World.block_lt_of_cell? w _ hx209_1)).trans hx209_1
           replace hx209_2:=(HB.out.cell (World.block_lt_of_cell? w _ hx209_2)).trans hx209_2
           replace p209:=eq_true p209
           replace q209:=eq_true q209
           go_wp2
           go_meet
           case rel=>exact ⟨_,(true),(by first|rfl|(simp;done)|(simp [*];done)),H',⟨by have:=HK1.out;have:=HK2.out;first|omega|exact Nat.le_refl _⟩,⟨by repeat (first|(with_reducible first|exact HB.out|apply below_alloc|apply pw_below_drewN|apply below_drew1)|exact HB.out)⟩⟩
          ·rw [if_neg c13] at H
           have c13b0:decide (((rd_T66 l0 x6_2).f1) < 0)=false:=decide_eq_false c13
           clear c13
           have H':=Aside0.mk H
           clear H
           have p209:0≤(x6_2:Int):=of_decide_eq_true (by assumption)
           have q209:x6_2 < (l0.length:Int):=of_decide_eq_true (by assumption)
           obtain ⟨ad209,e209,hx209_0,hx209_1,hx209_2⟩:=at_T66 HR0.out x6_2 p209 q209
           cases e209
           replace hx209_0:=(HB.out.cell (World.block_lt_of_cell? w _ hx209_0)).trans hx209_0
           replace hx209_1:=(HB.out.cell (World.block_lt_of_cell? w _ hx209_1)).trans hx209_1
           replace hx209_2:=(HB.out.cell (World.block_lt_of_cell? w _ hx209_2)).trans hx209_2
           replace p209:=eq_true p209
           replace q209:=eq_true q209
           have p210:0≤(x6_2:Int):=of_decide_eq_true (by assumption)
           have q210:x6_2 < (l0.length:Int):=of_decide_eq_true (by assumption)
           obtain ⟨ad210,e210,hx210_0,hx210_1,hx210_2⟩:=at_T66 HR0.out x6_2 p210 q210
           obtain rfl:ad209=ad210:=(by injection e210)
           replace hx210_0:=(HB.out.cell (World.block_lt_of_cell? w _ hx210_0)).trans hx210_0
           replace hx210_1:=(HB.out.cell (World.block_lt_of_cell? w _ hx210_1)).trans hx210_1
           replace hx210_2:=(HB.out.cell (World.block_lt_of_cell? w _ hx210_2)).trans hx210_2
           replace p210:=eq_true p210
           replace q210:=eq_true q210
           go_wp2
           go_meet
           case rel=>exact ⟨_,(decide (((rd_T66 l0 x6_2).f1) > 511)),(by first|rfl|(simp;done)|(simp [*];done)),H',⟨by have:=HK1.out;have:=HK2.out;first|omega|exact Nat.le_refl _⟩,⟨by repeat (first|(with_reducible first|exact HB.out|apply below_alloc|apply pw_below_drewN|apply below_drew1)|exact HB.out)⟩⟩
         ·rw [if_neg c12] at H
          exact absurd H (by simp)
        case rest=>
         clear HC11
         obtain ⟨kq,x45_10,rfl,HA,HJ10,HB⟩:=hcut
         cases kq with
         |zero=>exact absurd HA.out (by simp [barqueref09_Check.j2])
         |succ kj10=>
          have H:=HA.out
          clear HA
          simp only [barqueref09_Check.j2] at H
          by_cases c14:x45_10=true
          ·subst c14
           have H1:(some 11)=some r:=by rw [if_pos rfl] at H;exact H
           clear H
           have H:=H1
           clear H1
           obtain rfl:=Option.some.inj H
           go_wp2
           go_ret
           exact ⟨by first|rfl|(simp [errW_none]<;>rfl)|(simp [*]<;>rfl),by repeat (first|(with_reducible first|exact HB.out|apply below_alloc|apply pw_below_drewN|apply below_drew1)|exact HB.out)⟩
          ·replace c14:=Bool.eq_false_iff.mpr c14
           subst c14
           have H1:(if 0≤x6_2 then (if x6_2 < (l0.length:Int) then (if (((rd_T66 l0 x6_2).f2).size:Int) > 65536 then (some 4) else (barqueref09_Check.l1 kj10 l0 (wrap64 (x6_2+1)))) else (none)) else (none))=some r:=by rw [if_neg (show ¬(false=true) by decide)] at H;exact H
           clear H
           have H:=H1
           clear H1
           by_cases c15:0≤x6_2
           ·rw [if_pos c15] at H
            have c15b0:decide (0≤x6_2)=true:=decide_eq_true c15
            clear c15
            by_cases c16:x6_2 < (l0.length:Int)
            ·rw [if_pos c16] at H
             have c16b0:decide (x6_2 < (l0.length:Int))=true:=decide_eq_true c16
             clear c16
             by_cases c17:(((rd_T66 l0 x6_2).f2).size:Int) > 65536
             ·rw [if_pos c17] at H
              have c17b0:decide (65536 < (((rd_T66 l0 x6_2).f2).size:Int))=true:=decide_eq_true c17
              have c17b1:decide (65536 < ((rd_T66 l0 x6_2).f2).size)=true:=decide_eq_true (by omega)
              clear c17
              obtain rfl:=Option.some.inj H
              have p211:0≤(x6_2:Int):=of_decide_eq_true (by assumption)
              have q211:x6_2 < (l0.length:Int):=of_decide_eq_true (by assumption)
              obtain ⟨ad211,e211,hx211_0,hx211_1,hx211_2⟩:=at_T66 HR0.out x6_2 p211 q211
              cases e211
              replace hx211_0:=(HB.out.cell (World.block_lt_of_cell? w _ hx211_0)).trans hx211_0
              replace hx211_1:=(HB.out.cell (World.block_lt_of_cell? w _ hx211_1)).trans hx211_1
              replace hx211_2:=(HB.out.cell (World.block_lt_of_cell? w _ hx211_2)).trans hx211_2
              replace p211:=eq_true p211
              replace q211:=eq_true q211
              go_wp2
              go_ret
              exact ⟨by first|rfl|(simp [errW_none]<;>rfl)|(simp [*]<;>rfl),by repeat (first|(with_reducible first|exact HB.out|apply below_alloc|apply pw_below_drewN|apply below_drew1)|exact HB.out)⟩
             ·rw [if_neg c17] at H
              have c17b0:decide (65536 < (((rd_T66 l0 x6_2).f2).size:Int))=false:=decide_eq_false c17
              have c17b1:decide (65536 < ((rd_T66 l0 x6_2).f2).size)=false:=decide_eq_false (by omega)
              clear c17
              have H':=Aside0.mk H
              clear H
              have p211:0≤(x6_2:Int):=of_decide_eq_true (by assumption)
              have q211:x6_2 < (l0.length:Int):=of_decide_eq_true (by assumption)
              obtain ⟨ad211,e211,hx211_0,hx211_1,hx211_2⟩:=at_T66 HR0.out x6_2 p211 q211
              cases e211
              replace hx211_0:=(HB.out.cell (World.block_lt_of_cell? w _ hx211_0)).trans hx211_0
              replace hx211_1:=(HB.out.cell (World.block_lt_of_cell? w _ hx211_1)).trans hx211_1
              replace hx211_2:=(HB.out.cell (World.block_lt_of_cell? w _ hx211_2)).trans hx211_2
              replace p211:=eq_true p211
              replace q211:=eq_true q211
              go_wp2
              go_roundg kj10
              case measure=>have:=HK1.out;have:=HK2.out;have:=HJ10.out;omega
              case rel=>exact ⟨(wrap64 (x6_2+1)),(by first|rfl|(simp;done)|(simp [*];done)),H',⟨by have:=HK1.out;have:=HK2.out;have:=HJ10.out;omega⟩,⟨by repeat (first|(with_reducible first|exact HB.out|apply below_alloc|apply pw_below_drewN|apply below_drew1)|exact HB.out)⟩⟩
            ·rw [if_neg c16] at H
             exact absurd H (by simp)
           ·rw [if_neg c15] at H
            exact absurd H (by simp)
       ·rw [if_neg c10] at H
        have c10b0:decide (x6_2 < (l0.length:Int))=false:=decide_eq_false c10
        clear c10
        obtain rfl:=Option.some.inj H
        go_wp2
        go_ret
        exact ⟨by first|rfl|(simp [errW_none]<;>rfl)|(simp [*]<;>rfl),by repeat (first|(with_reducible first|exact HB.out|apply below_alloc|apply pw_below_drewN|apply below_drew1)|exact HB.out)⟩
    ·rw [if_neg c7] at H
     have c7b0:(t208 == 0)=false:=beq_eq_false_iff_ne.mpr c7
     have c7b1:(t208 != 0)=true:=bne_iff_ne.mpr c7
     obtain rfl:=Option.some.inj H
     obtain ⟨Ao18,co18,eo18⟩:=Kd.R_slice HO_3.out
     subst eo18
     go_wp2_with (first|((with_reducible refine gate_callee (f:=57) rfl ?_);refine goesL_ (some 22) rfl rfl Tryd.func57 (by kernel_rfl) rfl #[.slice Ao18 x3_1.length co18] rfl (by (try simp only [List.map_toArray,List.map_cons,List.map_nil]);try rfl) ?_;(with_reducible refine (barqueref09_together.calls k1 _ _ x3_1 t208 _ ?side1 ?side2 A6.out).mono ?_);(case side1=>repeat (first|exact (Kd.R_reads' HO_3.out).2.2|(with_reducible refine Kd.C_alloc ?_ _)|(with_reducible refine Kd.C_drewN ?_ _)|(with_reducible refine Kd.C_drew ?_)));(case side2=>exact (Kd.R_reads' HO_3.out).2.1);rintro e w19 ⟨rfl,hb⟩;refine ⟨_,rfl,?_⟩;have n0_:=Aside0.mk (Kd.R_below (by (with_reducible repeat (first|apply Kd.R_alloc|apply Kd.R_drewN|apply Kd.R_drew));exact HO_3.out) hb);have n1_:=Aside0.mk (below_step (by repeat (first|(with_reducible first|exact HB.out|apply below_alloc|apply pw_below_drewN|apply below_drew1)|exact HB.out)) hb);clear HO_3;clear HB;have HO_3:=n0_;have HB:=n1_;clear n0_ n1_))
     go_ret
     exact ⟨by first|rfl|(simp [errW_none]<;>rfl)|(simp [*]<;>rfl),by repeat (first|(with_reducible first|exact HB.out|apply below_alloc|apply pw_below_drewN|apply below_drew1)|exact HB.out)⟩
end Go.Proofs.YthejnffhfmdpnaaDoor.Q

end

section
namespace Go.Proofs.YthejnffhfmdpnaaDoor.Spec
set_option linter.unusedVariables false
open Go.RowKit Go.Proofs.YthejnffhfmdpnaaDoor.Q Go.Proofs.YthejnffhfmdpnaaDoorW.PrintWords Go.Proofs.YthejnffhfmdpnaaDoorW.PrintLast Go.Proofs.YthejnffhfmdpnaaDoorW.PrintMore
theorem rd66_at (l:List S66) (i:Nat) (hi:i < l.length):rd_T66 l (i:Int)=l[i]:=by
 rw [rd_T66,Int.toNat_natCast,List.getD_eq_getElem?_getD,List.getElem?_eq_getElem hi,Option.getD_some]
def modesP:List S66→Int
 | []=>0
 |f::t=>if f.f1 < 0∨f.f1 > 511 then 11 else if (f.f2.size:Int) > 65536 then 4 else modesP t
def checkP (l:List S66):Int:=if pathsP (l.map (·.f0))=0 then modesP l else pathsP (l.map (·.f0))
theorem codeModes (l:List S66) (hl:l.length < 1000000) (n:Nat): ∀(k i:Nat),i+n=l.length→n+1≤k→tree_Check.l1 k l (l.length:Int) (i:Int)=some (modesP (l.drop i)):=by
 induction n with
 |zero=>
  intro k i hi hk
  obtain ⟨k,rfl⟩: ∃m,k=m+1:=⟨k - 1,by omega⟩
  rw [tree_Check.l1,if_neg (by omega),List.drop_eq_nil_of_le (by omega)]
  rfl
 |succ n ih=>
  intro k i hi hk
  obtain ⟨k,rfl⟩: ∃m,k=m+1:=⟨k - 1,by omega⟩
  have hil:i < l.length:=by omega
  have hmode:tree_mode.f l[i].f1=some (decide (¬(l[i].f1 < 0∨l[i].f1 > 511))):=by
   unfold tree_mode.f
   split
   ·congr 1
    apply decide_eq_decide.mpr
    omega
   ·congr 1
    rw [decide_eq_false (by omega)]
  rw [tree_Check.l1,if_pos (by omega),if_pos (by omega),if_pos (by omega),rd66_at l i hil,hmode,Option.bind_some,List.drop_eq_getElem_cons hil,modesP]
  by_cases hm:l[i].f1 < 0∨l[i].f1 > 511
  ·rw [if_neg (fun h=>of_decide_eq_true (p:= ¬(l[i].f1 < 0∨l[i].f1 > 511)) h hm),if_pos hm]
  ·rw [if_pos (decide_eq_true hm),if_neg hm]
   by_cases hs:(l[i].f2.size:Int) > 65536
   ·rw [if_pos hs,if_pos hs]
   ·rw [if_neg hs,if_neg hs,w64 (by omega) (by omega),show (i:Int)+1=((i+1:Nat):Int) by omega]
    exact ih k (i+1) (by omega) (by omega)
theorem take_map_next (l:List S66) (i:Nat) (hi:i < l.length):(l.take i).map (·.f0)++[l[i].f0]=(l.take (i+1)).map (·.f0):=by
 rw [List.take_succ_eq_append_getElem hi,List.map_append]
 rfl
theorem codeCheck_l0 (l:List S66) (hl:l.length < 1000000) (n:Nat): ∀(k i:Nat),i+n=l.length→n+l.length+1400≤k→tree_Check.l0 k l ((l.take i).map (·.f0)) l (l.length:Int) (i:Int)=some (checkP l):=by
 induction n with
 |zero=>
  intro k i hi hk
  obtain ⟨k,rfl⟩: ∃m,k=m+1:=⟨k - 1,by omega⟩
  rw [tree_Check.l0,if_neg (by omega),List.take_of_length_le (by omega),codePaths k _ (by omega),Option.bind_some]
  unfold checkP
  by_cases h:pathsP (l.map (·.f0))=0
  ·rw [if_pos h,if_pos h]
   have:=codeModes l hl l.length k 0 (by omega) (by omega)
   rw [show ((0:Nat):Int)=0 from rfl,List.drop_zero] at this
   exact this
  ·rw [if_neg h,if_neg h]
 |succ n ih=>
  intro k i hi hk
  obtain ⟨k,rfl⟩: ∃m,k=m+1:=⟨k - 1,by omega⟩
  have hil:i < l.length:=by omega
  rw [tree_Check.l0,if_pos (by omega),if_pos (by omega),if_pos (by omega),if_pos (by rw [List.length_map,List.length_take];omega),rd66_at l i hil,take_map_next l i hil,w64 (by omega) (by omega),show (i:Int)+1=((i+1:Nat):Int) by omega]
  exact ih k (i+1) (by omega) (by omega)
theorem codeCheck (k:Nat) (l:List S66) (hl:l.length < 1000000) (hk:2*l.length+1400≤k):tree_Check.f k l=some (checkP l):=by
 unfold tree_Check.f
 exact codeCheck_l0 l hl l.length k 0 (by omega) (by omega)
theorem refModes (l:List S66) (hl:l.length < 1000000) (n:Nat): ∀(k i:Nat),i+n=l.length→2*n+1≤k→barqueref09_Check.l1 k l (i:Int)=some (modesP (l.drop i)):=by
 induction n with
 |zero=>
  intro k i hi hk
  obtain ⟨k,rfl⟩: ∃m,k=m+1:=⟨k - 1,by omega⟩
  rw [barqueref09_Check.l1,if_neg (by omega),List.drop_eq_nil_of_le (by omega)]
  rfl
 |succ n ih=>
  intro k i hi hk
  obtain ⟨k,rfl⟩: ∃m,k=m+2:=⟨k - 2,by omega⟩
  have hil:i < l.length:=by omega
  have hj:barqueref09_Check.l1 (k+2) l (i:Int)=barqueref09_Check.j2 (k+1) l (i:Int) (decide (l[i].f1 < 0∨l[i].f1 > 511)):=by
   rw [barqueref09_Check.l1,if_pos (by omega),if_pos (by omega),rd66_at l i hil]
   by_cases h:l[i].f1 < 0
   ·rw [if_pos h,decide_eq_true (show l[i].f1 < 0∨l[i].f1 > 511 from .inl h)]
   ·rw [if_neg h]
    congr 1
    apply decide_eq_decide.mpr
    omega
  rw [hj,barqueref09_Check.j2,List.drop_eq_getElem_cons hil,modesP]
  by_cases hm:l[i].f1 < 0∨l[i].f1 > 511
  ·rw [if_pos (decide_eq_true hm),if_pos hm]
  ·rw [if_neg (by rw [decide_eq_false hm];decide),if_neg hm,if_pos (by omega),if_pos (by omega),rd66_at l i hil]
   by_cases hs:(l[i].f2.size:Int) > 65536
   ·rw [if_pos hs,if_pos hs]
   ·rw [if_neg hs,if_neg hs,w64 (by omega) (by omega),show (i:Int)+1=((i+1:Nat):Int) by omega]
    exact ih k (i+1) (by omega) (by omega)
theorem refCheck_l0 (l:List S66) (hl:l.length < 1000000) (n:Nat): ∀(k i:Nat),i+n=l.length→n+2*l.length+1700≤k→barqueref09_Check.l0 k l ((l.take i).map (·.f0)) (i:Int)=some (checkP l):=by
 induction n with
 |zero=>
  intro k i hi hk
  obtain ⟨k,rfl⟩: ∃m,k=m+1:=⟨k - 1,by omega⟩
  rw [barqueref09_Check.l0,if_neg (by omega),List.take_of_length_le (by omega),refPaths k _ (by omega),Option.bind_some]
  unfold checkP
  by_cases h:pathsP (l.map (·.f0))=0
  ·rw [if_pos h,if_pos h]
   have:=refModes l hl l.length k 0 (by omega) (by omega)
   rw [show ((0:Nat):Int)=0 from rfl,List.drop_zero] at this
   exact this
  ·rw [if_neg h,if_neg h]
 |succ n ih=>
  intro k i hi hk
  obtain ⟨k,rfl⟩: ∃m,k=m+1:=⟨k - 1,by omega⟩
  have hil:i < l.length:=by omega
  rw [barqueref09_Check.l0,if_pos (by omega),if_pos (by omega),if_pos (by rw [List.length_map,List.length_take];omega),rd66_at l i hil,take_map_next l i hil,w64 (by omega) (by omega),show (i:Int)+1=((i+1:Nat):Int) by omega]
  exact ih k (i+1) (by omega) (by omega)
theorem refCheck (k:Nat) (l:List S66) (hl:l.length < 1000000) (hk:3*l.length+1700≤k):barqueref09_Check.f k l=some (checkP l):=by
 unfold barqueref09_Check.f
 exact refCheck_l0 l hl l.length k 0 (by omega) (by omega)
theorem modesP_zero {l:List S66} (h:modesP l=0): ∀f ∈ l,0≤f.f1∧f.f1≤511∧f.f2.size≤65536:=by
 induction l with
 |nil=>simp
 |cons x t ih=>
  unfold modesP at h
  split at h
  ·simp at h
  ·split at h
   ·simp at h
   ·intro f hf
    rcases List.mem_cons.1 hf with rfl|hf
    ·omega
    ·exact ih h f hf
theorem goP_zero: ∀(l:List ByteArray) (pr:Option ByteArray),goP pr l=0→ ∀s ∈ l,s.size≤200
 | [],_,_=>by simp
 |x::t,none,h=>by
  rw [goP] at h
  split at h
  next hp=>
   intro s hs
   rcases List.mem_cons.1 hs with rfl|hs
   ·exact pathP_zero hp
   ·exact goP_zero t _ h s hs
  next hp=>exact absurd h hp
 |x::t,some p,h=>by
  rw [goP] at h
  split at h
  next hp=>
   intro s hs
   rcases List.mem_cons.1 hs with rfl|hs
   ·exact pathP_zero hp
   ·split at h
    ·simp at h
    ·split at h
     ·simp at h
     ·split at h
      ·simp at h
      ·exact goP_zero t _ h s hs
  next hp=>exact absurd h hp
theorem checkP_zero {l:List S66} (h:checkP l=0):l.length≤256∧ ∀f ∈ l,f.f0.size≤200∧0≤f.f1∧f.f1≤511∧f.f2.size≤65536:=by
 unfold checkP at h
 split at h
 next hp=>
  have hm:=modesP_zero h
  unfold pathsP at hp
  split at hp
  ·simp at hp
  next hl=>
   have hg:=goP_zero _ _ hp
   rw [List.length_map] at hl
   exact ⟨by omega,fun f hf=>⟨hg f.f0 (List.mem_map_of_mem hf),hm f hf⟩⟩
 next hp=>exact absurd h hp
end Go.Proofs.YthejnffhfmdpnaaDoor.Spec

end

section
namespace Go.Proofs.YthejnffhfmdpnaaDoor.Q
open Go.RowKit Go.Proofs.YthejnffhfmdpnaaDoorW.PrintWords Go.Proofs.YthejnffhfmdpnaaDoorW.PrintLast Go.Proofs.YthejnffhfmdpnaaDoorW.PrintMore
attribute [local go_sem] min2_int min_two
set_option linter.unusedVariables false
set_option linter.unusedSimpArgs false
set_option maxHeartbeats 8000000 in
set_option maxRecDepth 100000 in
theorem image_Of.num_calls (k:Nat) (n:Int) (s:ByteArray) (er:Int) (l:List UInt8) (B b:Nat) (w:World) (hN:code_Num.f k n=some (s,er)) (hH:Lay.Holds B b l w) (hB:B≤w.heap.size) (hl:l.length+s.size≤140737488355328):
  Calls Tryd.prog 47 #[.int .i64 n, .pointer (some ⟨b,0,none⟩)] w fun e w'=>e= .returned (.tuple #[])∧Lay.Holds B b (l++s.data.toList) w'∧Below B w w'∧Lib.OthersKept 5 (some b) w w':=by
 have HN:=Aside0.mk hN
 have HH:=Aside0.mk hH
 have HL:=Aside0.mk hl
 have HBB:=Aside0.mk hB
 clear hN hH hl hB
 go_enter Tryd.func47,Tryd.ntmps47
 go_wp2_with fail
 refine (code_Num.calls k n s er _ HN.out).mono ?_
 rintro e w1 ⟨rfl,hb⟩
 have H1:=Aside0.mk (HH.out.below hb)
 have HB1:=Aside0.mk (hb.mono HBB.out)
 have HO1:=Aside0.mk ((Lib.OthersKept.refl 5 (some b) w).below hb)
 have HZ1:=Aside0.mk (Nat.le_trans HBB.out hb.size)
 clear hb
 go_wp2_with fail
 refine (Lay.write B b l s _ H1.out HL.out HZ1.out).mono ?_
 rintro e w2 ⟨rfl,h2,hb2,ho2⟩
 go_wp2
 go_end0
 exact ⟨rfl,h2,HB1.out.trans hb2,HO1.out.trans ho2⟩
def image_Of.heads (k:Nat):List S66→ByteArray→Option ByteArray
 | [],acc=>some acc
 |x::t,acc=>(code_Num.f k (x.f0.size:Int)).bind fun a=>(code_Num.f k x.f1).bind fun b=>(code_Num.f k (x.f2.size:Int)).bind fun c=>if acc.size+a.1.size+x.f0.size+b.1.size+c.1.size≤140737488355328 then image_Of.heads k t (acc++a.1++x.f0++b.1++c.1) else none
def image_Of.datas:List S66→ByteArray→Option (ByteArray × Int)
 | [],acc=>some (acc,0)
 |x::t,acc=>if acc.size≤140737488355328 then (if 524288 - (acc.size:Int) < (x.f2.size:Int) then some ((⟨#[]⟩:ByteArray),4) else image_Of.datas t (acc++x.f2)) else none
def image_Of.f (k:Nat) (l0:List S66):Option (ByteArray × Int):=(tree_Check.f k l0).bind fun e=>if e=0 then ((code_Num.f k (l0.length:Int)).bind fun n=>if n.1.size≤140737488355328 then ((image_Of.heads k l0 n.1).bind fun acc=>image_Of.datas l0 acc) else none) else some ((⟨#[]⟩:ByteArray),e)
theorem image_Of.box_kept {w w':World} {b g:Nat} {cs:Array Value} (ho:Lib.OthersKept 5 (some b) w w') (hg:w.heap[g]? =some (.cells cs 66 (0,0))) (hne:g≠b):w'.heap[g]? =some (.cells cs 66 (0,0)):=
 ho g _ hg (by simpa using hne) (fun c fz h=>by injection h with _ h2 _;exact absurd h2 (by decide))
theorem image_Of.drop_eq (l0:List S66) (i:Nat) (hlt:i < l0.length):l0.drop i=rd_T66 l0 (i:Int)::l0.drop (i+1):=by
 rw [List.drop_eq_getElem_cons hlt]
 unfold rd_T66
 rw [Int.toNat_natCast,List.getD_eq_getElem?_getD,List.getElem?_eq_getElem hlt]
 rfl
def image_Of.Rel (b:Nat) (w:World) (acc:ByteArray) (wr:World):Prop:=Lay.Holds b b acc.data.toList wr∧Below w.heap.size w wr∧b≤wr.heap.size
theorem image_Of.len (b:Nat) (acc:ByteArray) (w:World) (h:Lay.Holds b b acc.data.toList w):Calls Tryd.prog 50 #[.pointer (some ⟨b,0,none⟩)] w fun e w'=>e= .returned (.int .i64 acc.size)∧w'=w:=(Lay.len b b _ w h).mono fun e w' ⟨he,hw⟩=>⟨by rw [he,Array.length_toList];rfl,hw⟩
theorem image_Of.cell {w:World} {g:Nat} {x0 x1 x2:Value} (h:w.heap[g]? =some (.cells #[x0,x1,x2] 66 (0,0))):w.cell? ⟨g,0,none⟩=some x0∧w.cell? ⟨g,1,none⟩=some x1∧w.cell? ⟨g,2,none⟩=some x2:=⟨(blk_cell h 0).trans rfl,(blk_cell h 1).trans rfl,(blk_cell h 2).trans rfl⟩
set_option maxHeartbeats 16000000 in
set_option maxRecDepth 100000 in
theorem image_Of.calls (k:Nat) (A0:Option Addr) (c0:Nat) (l0:List (S66)) (r1:ByteArray) (r2:Int) (w:World) (hr0:Kd.C k66 w A0 l0.length l0) (hc0:l0.length≤c0) (h:image_Of.f k l0=some (r1,r2)):
  Calls Tryd.prog 32 #[.slice A0 l0.length c0] w fun e w'=>e= .returned (.tuple #[.string r1, .int .i64 r2])∧Below w.heap.size w w':=by
 have HR0:=Aside0.mk hr0
 have HC0:=Aside0.mk hc0
 have HLM:=Aside0.mk hr0.2.1
 clear hr0 hc0
 unfold image_Of.f at h
 obtain ⟨e0,hE,h⟩:=Option.bind_eq_some_iff.mp h
 have HE:=Aside0.mk hE
 clear hE
 by_cases c1:e0=0
 ·rw [if_pos c1] at h
  have c1b:(e0 == 0)=true:=beq_iff_eq.mpr c1
  have c1c:(e0 != 0)=false:=bne_eq_false_iff_eq.mpr c1
  clear c1
  obtain ⟨⟨n,ne⟩,hN,h⟩:=Option.bind_eq_some_iff.mp h
  replace h:(if n.size≤140737488355328 then ((image_Of.heads k l0 n).bind fun acc=>image_Of.datas l0 acc) else none)=some (r1,r2):=h
  by_cases c2:n.size≤140737488355328
  ·rw [if_pos c2] at h
   obtain ⟨accF,hF,h⟩:=Option.bind_eq_some_iff.mp h
   have HN:=Aside0.mk hN
   have HF:=Aside0.mk hF
   have HD:=Aside0.mk h
   have H2:=Aside0.mk c2
   clear hN hF h c2
   have hmf: ∀(fn:Fn) (first cap:Array Value) (w:World),(Instr.makeFunc fn first cap).run Tryd.prog w= .ok (.func fn first cap) w:=fun _ _ _ _=>rfl
   go_enter Tryd.func32,Tryd.ntmps32
   go_wp2_with (first|(go_at_call 46;refine (tree_Check.calls k A0 c0 l0 e0 _ HR0.out HC0.out HE.out).mono ?_;rintro e w1 ⟨rfl,hb⟩;have HB1:=Aside0.mk hb;have HH0:=Aside0.mk (Lay.Holds.fresh w1);clear hb))
   refine (image_Of.num_calls k (l0.length:Int) n ne [] w1.heap.size w1.heap.size _ HN.out HH0.out (by simp) (by simpa using H2.out)).mono ?_
   rintro e w2 ⟨rfl,h2,hb2,ho2⟩
   rw [List.nil_append] at h2
   have HZ1:=Aside0.mk HB1.out.size
   have HR2:=Aside0.mk (show image_Of.Rel w1.heap.size w n w2 from ⟨h2,(below_alloc HB1.out _).trans (hb2.mono HZ1.out),by have:=hb2.size;simp at this;omega⟩)
   clear h2 hb2 ho2 HH0 HN
   go_wp2_with fail
   go_loopw [23] (fun v wr=> ∃i:Nat,v= .int .i64 i∧i≤l0.length∧Aside0 (∃acc,image_Of.Rel w1.heap.size w acc wr∧image_Of.heads k (l0.drop i) acc=some accF)) (fun v _=>l0.length - (intOf v).toNat)
   case atStart=>exact ⟨0,rfl,Nat.zero_le _,⟨⟨n,HR2.out,by rw [List.drop_zero];exact HF.out⟩⟩⟩
   case round=>
    clear HR2 HF
    obtain ⟨i,rfl,hi,hR⟩:=hrel
    obtain ⟨acc,hrel,hgo⟩:=hR.out
    clear hR
    have hlm:=HLM.out
    by_cases hlt:i < l0.length
    ·rw [image_Of.drop_eq l0 i hlt] at hgo
     obtain ⟨⟨a,ae⟩,hA,hgo⟩:=Option.bind_eq_some_iff.mp hgo
     obtain ⟨⟨b,be⟩,hB,hgo⟩:=Option.bind_eq_some_iff.mp hgo
     obtain ⟨⟨c,ce⟩,hC,hgo⟩:=Option.bind_eq_some_iff.mp hgo
     replace hgo:(if acc.size+a.size+(rd_T66 l0 (i:Int)).f0.size+b.size+c.size≤140737488355328 then image_Of.heads k (l0.drop (i+1)) (acc++a++(rd_T66 l0 (i:Int)).f0++b++c) else none)=some accF:=hgo
     by_cases hz:acc.size+a.size+(rd_T66 l0 (i:Int)).f0.size+b.size+c.size≤140737488355328
     ·rw [if_pos hz] at hgo
      obtain ⟨ad,ead,hx0,hx1,hx2⟩:=at_T66 HR0.out (i:Int) (by omega) (by omega)
      cases ead
      replace hx0:=(hrel.2.1.cell (World.block_lt_of_cell? w _ hx0)).trans hx0
      replace hx1:=(hrel.2.1.cell (World.block_lt_of_cell? w _ hx1)).trans hx1
      replace hx2:=(hrel.2.1.cell (World.block_lt_of_cell? w _ hx2)).trans hx2
      rw [Int.toNat_natCast] at hx0 hx1 hx2
      generalize rd_T66 l0 (i:Int)=x at hA hB hC hgo hz hx0 hx1 hx2
      obtain ⟨x0,x1,x2⟩:=x
      have HA:=Aside0.mk hA
      have HBb:=Aside0.mk hB
      have HC:=Aside0.mk hC
      have HG:=Aside0.mk hgo
      have HZ:=Aside0.mk hz
      have HRr:=Aside0.mk hrel
      clear hA hB hC hgo hz hrel
      have hltb:decide ((i:Int) < (l0.length:Int))=true:=decide_eq_true (by omega)
      have hltc:decide (i < l0.length)=true:=decide_eq_true (by omega)
      have p200:=eq_true (show (0:Int)≤(i:Int) by omega)
      have q200:=eq_true (show (i:Int) < (l0.length:Int) by omega)
      go_wp2_with fail
      have HNE:=Aside0.mk (show wr.heap.size≠w1.heap.size by have:=HRr.out.1.lt;omega)
      have HH2:=Aside0.mk (HRr.out.1.alloc (.cells #[.string x0, .int .i64 x1, .string x2] 66))
      have HK2:=Aside0.mk (blk_new wr (.cells #[.string x0, .int .i64 x1, .string x2] 66))
      have HB2:=Aside0.mk (below_alloc HRr.out.2.1 (.cells #[.string x0, .int .i64 x1, .string x2] 66))
      have HS2:=Aside0.mk (show w1.heap.size≤(wr.alloc (.cells #[.string x0, .int .i64 x1, .string x2] 66)).heap.size by have:=HRr.out.2.2;simp;omega)
      clear HRr hx0 hx1 hx2
      refine (image_Of.num_calls k (x0.size:Int) a ae acc.data.toList w1.heap.size w1.heap.size _ HA.out HH2.out HS2.out (by have:=HZ.out;simp only [List.length_append,Array.length_toList,ByteArray.size] at this ⊢;omega)).mono ?_
      rintro e w3 ⟨rfl,h3,hb3,ho3⟩
      have HH3:=Aside0.mk h3
      have HK3:=Aside0.mk (image_Of.box_kept ho3 HK2.out HNE.out)
      have HB3:=Aside0.mk (HB2.out.trans (hb3.mono HZ1.out))
      have HS3:=Aside0.mk (Nat.le_trans HS2.out hb3.size)
      clear h3 hb3 ho3 HH2 HK2 HB2 HS2
      obtain ⟨e0_,e1_,e2_⟩:=image_Of.cell HK3.out
      go_wp2_with fail
      clear e0_ e1_ e2_
      refine (Lay.write w1.heap.size w1.heap.size (acc.data.toList++a.data.toList) x0 _ HH3.out (by have:=HZ.out;simp only [List.length_append,Array.length_toList,ByteArray.size] at this ⊢;omega) HS3.out).mono ?_
      rintro e w4 ⟨rfl,h4,hb4,ho4⟩
      have HH4:=Aside0.mk h4
      have HK4:=Aside0.mk (image_Of.box_kept ho4 HK3.out HNE.out)
      have HB4:=Aside0.mk (HB3.out.trans (hb4.mono HZ1.out))
      have HS4:=Aside0.mk (Nat.le_trans HS3.out hb4.size)
      clear h4 hb4 ho4 HH3 HK3 HB3 HS3
      obtain ⟨e0_,e1_,e2_⟩:=image_Of.cell HK4.out
      go_wp2_with fail
      clear e0_ e1_ e2_
      refine (image_Of.num_calls k x1 b be (acc.data.toList++a.data.toList++x0.data.toList) w1.heap.size w1.heap.size _ HBb.out HH4.out HS4.out (by have:=HZ.out;simp only [List.length_append,Array.length_toList,ByteArray.size] at this ⊢;omega)).mono ?_
      rintro e w5 ⟨rfl,h5,hb5,ho5⟩
      have HH5:=Aside0.mk h5
      have HK5:=Aside0.mk (image_Of.box_kept ho5 HK4.out HNE.out)
      have HB5:=Aside0.mk (HB4.out.trans (hb5.mono HZ1.out))
      have HS5:=Aside0.mk (Nat.le_trans HS4.out hb5.size)
      clear h5 hb5 ho5 HH4 HK4 HB4 HS4
      obtain ⟨e0_,e1_,e2_⟩:=image_Of.cell HK5.out
      go_wp2_with fail
      clear e0_ e1_ e2_
      refine (image_Of.num_calls k (x2.size:Int) c ce (acc.data.toList++a.data.toList++x0.data.toList++b.data.toList) w1.heap.size w1.heap.size _ HC.out HH5.out HS5.out (by have:=HZ.out;simp only [List.length_append,Array.length_toList,ByteArray.size] at this ⊢;omega)).mono ?_
      rintro e w6 ⟨rfl,h6,hb6,ho6⟩
      have HH6:=Aside0.mk h6
      have HK6:=Aside0.mk (image_Of.box_kept ho6 HK5.out HNE.out)
      have HB6:=Aside0.mk (HB5.out.trans (hb6.mono HZ1.out))
      have HS6:=Aside0.mk (Nat.le_trans HS5.out hb6.size)
      clear h6 hb6 ho6 HH5 HK5 HB5 HS5
      obtain ⟨e0_,e1_,e2_⟩:=image_Of.cell HK6.out
      go_wp2_with fail
      clear e0_ e1_ e2_
      go_roundw
      case rel=>
       refine ⟨i+1,by go_num,by omega,⟨⟨acc++a++x0++b++c,⟨?_,HB6.out,HS6.out⟩,HG.out⟩⟩⟩
       simp only [ByteArray.data_append,Array.toList_append]
       exact HH6.out
      case measure=>simp [intOf];omega
     ·rw [if_neg hz] at hgo
      exact absurd hgo (by simp)
    ·have hltb:decide ((i:Int) < (l0.length:Int))=false:=decide_eq_false (by omega)
     have hltc:decide (i < l0.length)=false:=decide_eq_false (by omega)
     rw [List.drop_eq_nil_of_le (by omega)] at hgo
     obtain rfl:=Option.some.inj hgo
     have HR2:=Aside0.mk hrel
     clear hgo hrel hlt
     go_wp2_with fail
     go_loopw [47] (fun v wr=> ∃i:Nat,v= .int .i64 i∧i≤l0.length∧Aside0 (∃acc,image_Of.Rel w1.heap.size w acc wr∧image_Of.datas (l0.drop i) acc=some (r1,r2))) (fun v _=>l0.length - (intOf v).toNat)
     case atStart=>exact ⟨0,rfl,Nat.zero_le _,⟨⟨acc,HR2.out,by rw [List.drop_zero];exact HD.out⟩⟩⟩
     case round=>
      clear HR2 HD hltb hltc
      obtain ⟨i,rfl,hi,hR⟩:=hrel
      obtain ⟨acc,hrel,hgo⟩:=hR.out
      clear hR
      by_cases hlt:i < l0.length
      ·rw [image_Of.drop_eq l0 i hlt] at hgo
       replace hgo:(if acc.size≤140737488355328 then (if 524288 - (acc.size:Int) < ((rd_T66 l0 (i:Int)).f2.size:Int) then some ((⟨#[]⟩:ByteArray),4) else image_Of.datas (l0.drop (i+1)) (acc++(rd_T66 l0 (i:Int)).f2)) else none)=some (r1,r2):=hgo
       by_cases hz:acc.size≤140737488355328
       ·rw [if_pos hz] at hgo
        obtain ⟨ad,ead,hx0,hx1,hx2⟩:=at_T66 HR0.out (i:Int) (by omega) (by omega)
        cases ead
        replace hx0:=(hrel.2.1.cell (World.block_lt_of_cell? w _ hx0)).trans hx0
        replace hx1:=(hrel.2.1.cell (World.block_lt_of_cell? w _ hx1)).trans hx1
        replace hx2:=(hrel.2.1.cell (World.block_lt_of_cell? w _ hx2)).trans hx2
        rw [Int.toNat_natCast] at hx0 hx1 hx2
        generalize rd_T66 l0 (i:Int)=x at hgo hx0 hx1 hx2
        obtain ⟨x0,x1,x2⟩:=x
        have hltb:decide ((i:Int) < (l0.length:Int))=true:=decide_eq_true (by omega)
        have hltc:decide (i < l0.length)=true:=decide_eq_true (by omega)
        have p200:=eq_true (show (0:Int)≤(i:Int) by omega)
        have q200:=eq_true (show (i:Int) < (l0.length:Int) by omega)
        have HNE:=Aside0.mk (show wr.heap.size≠w1.heap.size by have:=hrel.1.lt;omega)
        have HH2:=Aside0.mk (hrel.1.alloc (.cells #[.string x0, .int .i64 x1, .string x2] 66))
        have HK2:=Aside0.mk (blk_new wr (.cells #[.string x0, .int .i64 x1, .string x2] 66))
        have HB2:=Aside0.mk (below_alloc hrel.2.1 (.cells #[.string x0, .int .i64 x1, .string x2] 66))
        have HS2:=Aside0.mk (show w1.heap.size≤(wr.alloc (.cells #[.string x0, .int .i64 x1, .string x2] 66)).heap.size by have:=hrel.2.2;simp;omega)
        have hw:=IntWalk.i64_in (524288 - (acc.size:Int)) (by omega)
        by_cases hq:524288 - (acc.size:Int) < (x2.size:Int)
        ·replace hgo:(if 524288 - (acc.size:Int) < (x2.size:Int) then some ((⟨#[]⟩:ByteArray),4) else image_Of.datas (l0.drop (i+1)) (acc++x2))=some (r1,r2):=hgo
         rw [if_pos hq] at hgo
         simp only [Option.some.injEq,Prod.mk.injEq] at hgo
         obtain ⟨rfl,rfl⟩:=hgo
         have hqb:decide (524288 - (acc.size:Int) < (x2.size:Int))=true:=decide_eq_true hq
         clear hq hz hrel hi hlm
         go_wp2_with fail
         obtain ⟨e0_,e1_,e2_⟩:=image_Of.cell HK2.out
         go_quiet ((go_at_call 50;exact Calls.quiet_of_same (image_Of.len w1.heap.size acc _ HH2.out)))
         go_wp2
         go_ret2
         exact ⟨rfl,by first|exact pw_below_drewN HB2.out _|exact HB2.out⟩
        ·replace hgo:(if 524288 - (acc.size:Int) < (x2.size:Int) then some ((⟨#[]⟩:ByteArray),4) else image_Of.datas (l0.drop (i+1)) (acc++x2))=some (r1,r2):=hgo
         rw [if_neg hq] at hgo
         have hqb:decide (524288 - (acc.size:Int) < (x2.size:Int))=false:=decide_eq_false hq
         have HG:=Aside0.mk hgo
         have HQ:=Aside0.mk (show acc.size+x2.size≤140737488355328 by omega)
         clear hgo hq hz hrel
         go_wp2_with fail
         obtain ⟨e0_,e1_,e2_⟩:=image_Of.cell HK2.out
         go_quiet ((go_at_call 50;exact Calls.quiet_of_same (image_Of.len w1.heap.size acc _ HH2.out)))
         go_wp2_with fail
         refine (Lay.write w1.heap.size w1.heap.size acc.data.toList x2 _ (Lay.Holds.drewN HH2.out _) (by have:=HQ.out;simp only [Array.length_toList,ByteArray.size] at this ⊢;omega) HS2.out).mono ?_
         rintro e w6 ⟨rfl,h6,hb6,ho6⟩
         have HH6:=Aside0.mk h6
         have HB6:=Aside0.mk ((pw_below_drewN HB2.out _).trans (hb6.mono HZ1.out))
         have HS6:=Aside0.mk (Nat.le_trans HS2.out hb6.size)
         clear h6 hb6 ho6 HH2 HK2 HB2 HS2 e0_ e1_ e2_ hx0 hx1 hx2 hw
         go_wp2_with fail
         go_roundw
         case rel=>
          refine ⟨i+1,by go_num,by omega,⟨⟨acc++x2,⟨?_,HB6.out,HS6.out⟩,HG.out⟩⟩⟩
          simp only [ByteArray.data_append,Array.toList_append]
          exact HH6.out
         case measure=>simp [intOf];omega
       ·rw [if_neg hz] at hgo
        exact absurd hgo (by simp)
      ·have hltb:decide ((i:Int) < (l0.length:Int))=false:=decide_eq_false (by omega)
       have hltc:decide (i < l0.length)=false:=decide_eq_false (by omega)
       rw [List.drop_eq_nil_of_le (by omega)] at hgo
       simp only [image_Of.datas,Option.some.injEq,Prod.mk.injEq] at hgo
       obtain ⟨rfl,rfl⟩:=hgo
       have HRr:=Aside0.mk hrel
       clear hrel hlt
       go_wp2_with fail
       refine (Lay.tell w1.heap.size w1.heap.size acc.data.toList _ HRr.out.1 HRr.out.2.2).mono ?_
       rintro e w3 ⟨rfl,hb⟩
       have HB3:=Aside0.mk (HRr.out.2.1.trans (hb.mono HZ1.out))
       clear hb
       go_wp2
       go_ret2
       exact ⟨rfl,HB3.out⟩
  ·rw [if_neg c2] at h
   exact absurd h (by simp)
 ·rw [if_neg c1] at h
  have c1b:(e0 == 0)=false:=beq_eq_false_iff_ne.mpr c1
  have c1c:(e0 != 0)=true:=bne_iff_ne.mpr c1
  simp only [Option.some.injEq,Prod.mk.injEq] at h
  obtain ⟨rfl,rfl⟩:=h
  clear c1
  go_enter Tryd.func32,Tryd.ntmps32
  go_wp2_with (first|(go_at_call 46;refine (tree_Check.calls k A0 c0 l0 e0 _ HR0.out HC0.out HE.out).mono ?_;rintro e w1 ⟨rfl,hb⟩;have HB1:=Aside0.mk hb;clear hb))
  go_ret2
  exact ⟨rfl,HB1.out⟩
end Go.Proofs.YthejnffhfmdpnaaDoor.Q

end

section
namespace Go.Proofs.YthejnffhfmdpnaaDoor.Q
open Go.RowKit Go.Proofs.YthejnffhfmdpnaaDoorW.PrintWords Go.Proofs.YthejnffhfmdpnaaDoorW.PrintLast Go.Proofs.YthejnffhfmdpnaaDoorW.PrintMore
attribute [local go_sem] min2_int min_two
set_option linter.unusedVariables false
set_option linter.unusedSimpArgs false
def barqueref01_Bytes.f (k:Nat) (a0:Int):Option (ByteArray):=(barqueref01_Num.f k a0).bind fun bt218=>(some bt218.1)
set_option maxHeartbeats 8000000 in
set_option maxRecDepth 100000 in
theorem barqueref01_Bytes.calls (k:Nat) (a0:Int) (r:ByteArray) (w:World) (h:barqueref01_Bytes.f k a0=some r):
  Calls Tryd.prog 43 #[.int .i64 a0] w fun e w'=>e= .returned (.string r)∧Below w.heap.size w w':=by
 have HB:=Aside0.mk (Below.refl w.heap.size w)
 have H:((barqueref01_Num.f k a0).bind fun bt218=>(some bt218.1))=some r:=h
 clear h
 replace H:=Option.bind_eq_some_iff.mp H
 obtain ⟨⟨t218,t219⟩,A20,H⟩:=H
 replace H:(some t218)=some r:=H
 have A2:=Aside0.mk A20
 clear A20
 obtain rfl:=Option.some.inj H
 go_enter Tryd.func43,Tryd.ntmps43
 go_wp2_with (first|((with_reducible refine gate_callee (f:=58) rfl ?_);refine goesL_ (some 7) rfl rfl Tryd.func58 (by kernel_rfl) rfl #[.int .i64 a0] rfl (by (try simp only [List.map_toArray,List.map_cons,List.map_nil]);try rfl) ?_;(with_reducible refine (barqueref01_Num.calls k a0 t218 t219 _ A2.out).mono ?_);rintro e w3 ⟨rfl,hb⟩;refine ⟨_,rfl,?_⟩;have n0_:=Aside0.mk (below_step (by repeat (first|(with_reducible first|exact HB.out|apply below_alloc|apply pw_below_drewN|apply below_drew1)|exact HB.out)) hb);clear HB;have HB:=n0_;clear n0_))
 go_ret
 exact ⟨by first|rfl|(simp [errW_none]<;>rfl)|(simp [*]<;>rfl),by repeat (first|(with_reducible first|exact HB.out|apply below_alloc|apply pw_below_drewN|apply below_drew1)|exact HB.out)⟩
end Go.Proofs.YthejnffhfmdpnaaDoor.Q

end

section
namespace Go.Proofs.YthejnffhfmdpnaaDoor.Q
open Go.RowKit Go.Proofs.YthejnffhfmdpnaaDoorW.PrintWords Go.Proofs.YthejnffhfmdpnaaDoorW.PrintLast Go.Proofs.YthejnffhfmdpnaaDoorW.PrintMore
attribute [local go_sem] min2_int min_two
set_option linter.unusedVariables false
set_option linter.unusedSimpArgs false
def barqueref01_Text.f (k:Nat) (a0:ByteArray):Option (ByteArray × Int):=if (a0.size:Int) > 1048576 then (some ((⟨#[]⟩:ByteArray),4)) else ((barqueref01_Bytes.f k (a0.size:Int)).bind fun t220=>(if t220.size+a0.size≤9223372036854775807 then (some (t220++a0,0)) else (none)))
set_option maxHeartbeats 8000000 in
set_option maxRecDepth 100000 in
theorem barqueref01_Text.calls (k:Nat) (a0:ByteArray) (r1:ByteArray) (r2:Int) (w:World) (h:barqueref01_Text.f k a0=some (r1,r2)):
  Calls Tryd.prog 44 #[.string a0] w fun e w'=>e= .returned (.tuple #[.string r1, .int .i64 r2])∧Below w.heap.size w w':=by
 have HB:=Aside0.mk (Below.refl w.heap.size w)
 have H:(if (a0.size:Int) > 1048576 then (some ((⟨#[]⟩:ByteArray),4)) else ((barqueref01_Bytes.f k (a0.size:Int)).bind fun t220=>(if t220.size+a0.size≤9223372036854775807 then (some (t220++a0,0)) else (none))))=some (r1,r2):=h
 clear h
 by_cases c2:(a0.size:Int) > 1048576
 ·rw [if_pos c2] at H
  have c2b0:decide (1048576 < (a0.size:Int))=true:=decide_eq_true c2
  have c2b1:decide (1048576 < a0.size)=true:=decide_eq_true (by omega)
  clear c2
  simp only [Option.some.injEq,Prod.mk.injEq] at H
  obtain ⟨rfl,rfl⟩:=H
  go_enter Tryd.func44,Tryd.ntmps44
  go_wp2
  go_ret2
  exact ⟨by first|rfl|(simp [errW_none]<;>rfl)|(simp [*]<;>rfl),by repeat (first|(with_reducible first|exact HB.out|apply below_alloc|apply pw_below_drewN|apply below_drew1)|exact HB.out)⟩
 ·rw [if_neg c2] at H
  have c2b0:decide (1048576 < (a0.size:Int))=false:=decide_eq_false c2
  have c2b1:decide (1048576 < a0.size)=false:=decide_eq_false (by omega)
  clear c2
  replace H:=Option.bind_eq_some_iff.mp H
  obtain ⟨t220,A30,H⟩:=H
  replace H:(if t220.size+a0.size≤9223372036854775807 then (some (t220++a0,0)) else (none))=some (r1,r2):=H
  have A3:=Aside0.mk A30
  clear A30
  by_cases c4:t220.size+a0.size≤9223372036854775807
  ·rw [if_pos c4] at H
   have c4b0:=eq_true c4
   have c4b1:decide (t220.size+a0.size≤9223372036854775807)=true:=decide_eq_true c4
   try have c4b2:(9223372036854775807 < t220.size+a0.size)=False:=eq_false (Nat.not_lt.2 c4)
   simp only [Option.some.injEq,Prod.mk.injEq] at H
   obtain ⟨rfl,rfl⟩:=H
   go_enter Tryd.func44,Tryd.ntmps44
   go_wp2_with (first|((with_reducible refine gate_callee (f:=43) rfl ?_);refine goesL_ (some 9) rfl rfl Tryd.func43 (by kernel_rfl) rfl #[.int .i64 (a0.size:Int)] rfl (by (try simp only [List.map_toArray,List.map_cons,List.map_nil]);try rfl) ?_;(with_reducible refine (barqueref01_Bytes.calls k (a0.size:Int) t220 _ A3.out).mono ?_);rintro e w5 ⟨rfl,hb⟩;refine ⟨_,rfl,?_⟩;have n0_:=Aside0.mk (below_step (by repeat (first|(with_reducible first|exact HB.out|apply below_alloc|apply pw_below_drewN|apply below_drew1)|exact HB.out)) hb);clear HB;have HB:=n0_;clear n0_))
   go_ret2
   exact ⟨by first|rfl|(simp [errW_none]<;>rfl)|(simp [*]<;>rfl),by repeat (first|(with_reducible first|exact HB.out|apply below_alloc|apply pw_below_drewN|apply below_drew1)|exact HB.out)⟩
  ·rw [if_neg c4] at H
   exact absurd H (by simp)
end Go.Proofs.YthejnffhfmdpnaaDoor.Q

end

section
namespace Go.Proofs.YthejnffhfmdpnaaDoor.Q
open Go.RowKit Go.Proofs.YthejnffhfmdpnaaDoorW.PrintWords Go.Proofs.YthejnffhfmdpnaaDoorW.PrintLast Go.Proofs.YthejnffhfmdpnaaDoorW.PrintMore
attribute [local go_sem] min2_int min_two
set_option linter.unusedVariables false
set_option linter.unusedSimpArgs false
mutual
def barqueref10_Of.l0:Nat→List (S66)→ByteArray→Int→Option (ByteArray × Int)
 |0,_,_,_=>none
 |k+1,x0,x5,x6=>if x6 < (x0.length:Int) then (if 0≤x6 then ((barqueref01_Text.f k ((rd_T66 x0 x6).f0)).bind fun bt250=>(if x5.size+bt250.1.size≤9223372036854775807 then ((barqueref01_Bytes.f k ((rd_T66 x0 x6).f1)).bind fun t253=>(if (x5++bt250.1).size+t253.size≤9223372036854775807 then ((barqueref01_Bytes.f k (((rd_T66 x0 x6).f2).size:Int)).bind fun t255=>(if ((x5++bt250.1)++t253).size+t255.size≤9223372036854775807 then (barqueref10_Of.l0 k x0 (((x5++bt250.1)++t253)++t255) (wrap64 (x6+1))) else (none))) else (none))) else (none))) else (none)) else (barqueref10_Of.l1 k x0 x5 0)
def barqueref10_Of.l1:Nat→List (S66)→ByteArray→Int→Option (ByteArray × Int)
 |0,_,_,_=>none
 |k+1,x0,x5,x9=>if x9 < (x0.length:Int) then (if 0≤x9 then (if x5.size+((rd_T66 x0 x9).f2).size≤9223372036854775807 then (if ((x5++((rd_T66 x0 x9).f2)).size:Int) > 524288 then (some ((⟨#[]⟩:ByteArray),4)) else (barqueref10_Of.l1 k x0 (x5++((rd_T66 x0 x9).f2)) (wrap64 (x9+1)))) else (none)) else (none)) else (some (x5,0))
end
def barqueref10_Of.f (k:Nat) (l0:List (S66)):Option (ByteArray × Int):=(barqueref09_Check.f k l0).bind fun t247=>(if t247=0 then ((barqueref01_Bytes.f k (l0.length:Int)).bind fun t248=>(barqueref10_Of.l0 k l0 t248 0)) else (some ((⟨#[]⟩:ByteArray),t247)))
def barqueref10_Of.T9:Bool × List (List Nat × List Nat):=(true,[([],[]),([],[]),([0,1],[0,1]),([],[]),([],[]),([3,4],[3,4]),([5],[5]),([6],[6]),([7],[7]),([2,8],[2,8]),([],[]),([],[]),([10,11],[10,11]),([12],[12]),([13],[13]),([14],[14]),([15,8],[15]),([9,16],[9,16]),([17,16,0,1,2,3,4,5,6,7,8,9,10,11,12,13,14,15,16,17],[0,17])])
def barqueref10_Of.B9:List Nat:=[0,0,3,0,0,24,56,120,248,511,0,0,3072,7168,15360,31744,65016,131071,262143]
theorem barqueref10_Of.tab9:rtab .any (opsOf Tryd.f30 9)=barqueref10_Of.T9:=by kernel_rfl
theorem barqueref10_Of.bits9:waitsOk barqueref10_Of.T9.2 barqueref10_Of.B9=true:=by kernel_rfl
set_option maxHeartbeats 8000000 in
set_option maxRecDepth 100000 in
theorem barqueref10_Of.calls (k:Nat) (A0:Option Addr) (c0:Nat) (l0:List (S66)) (r1:ByteArray) (r2:Int) (w:World) (hr0:Kd.C k66 w A0 l0.length l0) (hc0:l0.length≤c0) (h:barqueref10_Of.f k l0=some (r1,r2)):
  Calls Tryd.prog 30 #[.slice A0 l0.length c0] w fun e w'=>e= .returned (.tuple #[.string r1, .int .i64 r2])∧Below w.heap.size w w':=by
 have HR0:=Aside0.mk hr0
 have HC0:=Aside0.mk hc0
 clear hr0 hc0
 have HB:=Aside0.mk (Below.refl w.heap.size w)
 have H:((barqueref09_Check.f k l0).bind fun t247=>(if t247=0 then ((barqueref01_Bytes.f k (l0.length:Int)).bind fun t248=>(barqueref10_Of.l0 k l0 t248 0)) else (some ((⟨#[]⟩:ByteArray),t247))))=some (r1,r2):=h
 clear h
 replace H:=Option.bind_eq_some_iff.mp H
 obtain ⟨t247,A20,H⟩:=H
 replace H:(if t247=0 then ((barqueref01_Bytes.f k (l0.length:Int)).bind fun t248=>(barqueref10_Of.l0 k l0 t248 0)) else (some ((⟨#[]⟩:ByteArray),t247)))=some (r1,r2):=H
 have A2:=Aside0.mk A20
 clear A20
 by_cases c3:t247=0
 ·rw [if_pos c3] at H
  have c3b0:(t247 == 0)=true:=beq_iff_eq.mpr c3
  have c3b1:(t247 != 0)=false:=bne_eq_false_iff_eq.mpr c3
  clear c3
  replace H:=Option.bind_eq_some_iff.mp H
  obtain ⟨t248,A40,H⟩:=H
  replace H:(barqueref10_Of.l0 k l0 t248 0)=some (r1,r2):=H
  have A4:=Aside0.mk A40
  clear A40
  have H':=Aside0.mk H
  clear H
  go_enter Tryd.func30,Tryd.ntmps30
  go_wp2_with (first|((with_reducible refine gate_callee (f:=42) rfl ?_);refine goesL_ (some 11) rfl rfl Tryd.func42 (by kernel_rfl) rfl #[.slice A0 l0.length c0] rfl (by (try simp only [List.map_toArray,List.map_cons,List.map_nil]);try rfl) ?_;(with_reducible refine (barqueref09_Check.calls k _ _ l0 t247 _ ?side1 ?side2 A2.out).mono ?_);(case side1=>repeat (first|exact HR0.out|(with_reducible refine Kd.C_alloc ?_ _)|(with_reducible refine Kd.C_drewN ?_ _)|(with_reducible refine Kd.C_drew ?_)));(case side2=>exact HC0.out);rintro e w5 ⟨rfl,hb⟩;refine ⟨_,rfl,?_⟩;have n0_:=Aside0.mk (below_step (by repeat (first|(with_reducible first|exact HB.out|apply below_alloc|apply pw_below_drewN|apply below_drew1)|exact HB.out)) hb);clear HB;have HB:=n0_;clear n0_)|((with_reducible refine gate_callee (f:=43) rfl ?_);refine goesL_ (some 17) rfl rfl Tryd.func43 (by kernel_rfl) rfl #[.int .i64 (l0.length:Int)] rfl (by (try simp only [List.map_toArray,List.map_cons,List.map_nil]);try rfl) ?_;(with_reducible refine (barqueref01_Bytes.calls k (l0.length:Int) t248 _ A4.out).mono ?_);rintro e w6 ⟨rfl,hb⟩;refine ⟨_,rfl,?_⟩;have n0_:=Aside0.mk (below_step (by repeat (first|(with_reducible first|exact HB.out|apply below_alloc|apply pw_below_drewN|apply below_drew1)|exact HB.out)) hb);clear HB;have HB:=n0_;clear n0_))
  go_loopg [5,6] k (fun kq v5 v6 w'=> ∃(x5_1:ByteArray) (x6_1:Int),v5= .string x5_1∧v6= .int .i64 x6_1∧Aside0 (barqueref10_Of.l0 kq l0 x5_1 x6_1=some (r1,r2))∧Aside0 (kq≤k)∧Aside0 (Below w.heap.size w w'))
  case atStart=>exact ⟨(t248),(0),(by first|rfl|(simp;done)|(simp [*];done)),(by first|rfl|(simp;done)|(simp [*];done)),H',⟨Nat.le_refl _⟩,⟨by repeat (first|(with_reducible first|exact HB.out|apply below_alloc|apply pw_below_drewN|apply below_drew1)|exact HB.out)⟩⟩
  case round=>
   clear H'
   obtain ⟨x5_1,x6_1,rfl,rfl,HA,HK1,HB⟩:=hrel
   cases gk with
   |zero=>exact absurd HA.out (by simp [barqueref10_Of.l0])
   |succ k1=>
    have H:=HA.out
    clear HA
    simp only [barqueref10_Of.l0] at H
    by_cases c7:x6_1 < (l0.length:Int)
    ·rw [if_pos c7] at H
     have c7b0:decide (x6_1 < (l0.length:Int))=true:=decide_eq_true c7
     clear c7
     by_cases c8:0≤x6_1
     ·rw [if_pos c8] at H
      have c8b0:decide (0≤x6_1)=true:=decide_eq_true c8
      clear c8
      replace H:=Option.bind_eq_some_iff.mp H
      obtain ⟨⟨t250,t251⟩,A90,H⟩:=H
      replace H:(if x5_1.size+t250.size≤9223372036854775807 then ((barqueref01_Bytes.f k1 ((rd_T66 l0 x6_1).f1)).bind fun t253=>(if (x5_1++t250).size+t253.size≤9223372036854775807 then ((barqueref01_Bytes.f k1 (((rd_T66 l0 x6_1).f2).size:Int)).bind fun t255=>(if ((x5_1++t250)++t253).size+t255.size≤9223372036854775807 then (barqueref10_Of.l0 k1 l0 (((x5_1++t250)++t253)++t255) (wrap64 (x6_1+1))) else (none))) else (none))) else (none))=some (r1,r2):=H
      have A9:=Aside0.mk A90
      clear A90
      by_cases c10:x5_1.size+t250.size≤9223372036854775807
      ·rw [if_pos c10] at H
       have c10b0:=eq_true c10
       have c10b1:decide (x5_1.size+t250.size≤9223372036854775807)=true:=decide_eq_true c10
       try have c10b2:(9223372036854775807 < x5_1.size+t250.size)=False:=eq_false (Nat.not_lt.2 c10)
       replace H:=Option.bind_eq_some_iff.mp H
       obtain ⟨t253,A110,H⟩:=H
       replace H:(if (x5_1++t250).size+t253.size≤9223372036854775807 then ((barqueref01_Bytes.f k1 (((rd_T66 l0 x6_1).f2).size:Int)).bind fun t255=>(if ((x5_1++t250)++t253).size+t255.size≤9223372036854775807 then (barqueref10_Of.l0 k1 l0 (((x5_1++t250)++t253)++t255) (wrap64 (x6_1+1))) else (none))) else (none))=some (r1,r2):=H
       have A11:=Aside0.mk A110
       clear A110
       by_cases c12:(x5_1++t250).size+t253.size≤9223372036854775807
       ·rw [if_pos c12] at H
        have c12b0:=eq_true c12
        have c12b1:decide ((x5_1++t250).size+t253.size≤9223372036854775807)=true:=decide_eq_true c12
        try have c12b2:(9223372036854775807 < (x5_1++t250).size+t253.size)=False:=eq_false (Nat.not_lt.2 c12)
        have c12b3:=c12
        simp only [ByteArray.size_append] at c12b3
        have c12b4:=eq_true c12b3
        have c12b5:=decide_eq_true c12b3
        have c12b6:=eq_false (Nat.not_lt.2 c12b3)
        replace H:=Option.bind_eq_some_iff.mp H
        obtain ⟨t255,A130,H⟩:=H
        replace H:(if ((x5_1++t250)++t253).size+t255.size≤9223372036854775807 then (barqueref10_Of.l0 k1 l0 (((x5_1++t250)++t253)++t255) (wrap64 (x6_1+1))) else (none))=some (r1,r2):=H
        have A13:=Aside0.mk A130
        clear A130
        by_cases c14:((x5_1++t250)++t253).size+t255.size≤9223372036854775807
        ·rw [if_pos c14] at H
         have c14b0:=eq_true c14
         have c14b1:decide (((x5_1++t250)++t253).size+t255.size≤9223372036854775807)=true:=decide_eq_true c14
         try have c14b2:(9223372036854775807 < ((x5_1++t250)++t253).size+t255.size)=False:=eq_false (Nat.not_lt.2 c14)
         have c14b3:=c14
         simp only [ByteArray.size_append] at c14b3
         have c14b4:=eq_true c14b3
         have c14b5:=decide_eq_true c14b3
         have c14b6:=eq_false (Nat.not_lt.2 c14b3)
         have H':=Aside0.mk H
         clear H
         have p249:0≤(x6_1:Int):=of_decide_eq_true (by assumption)
         have q249:x6_1 < (l0.length:Int):=of_decide_eq_true (by assumption)
         obtain ⟨ad249,e249,hx249_0,hx249_1,hx249_2⟩:=at_T66 HR0.out x6_1 p249 q249
         cases e249
         replace hx249_0:=(HB.out.cell (World.block_lt_of_cell? w _ hx249_0)).trans hx249_0
         replace hx249_1:=(HB.out.cell (World.block_lt_of_cell? w _ hx249_1)).trans hx249_1
         replace hx249_2:=(HB.out.cell (World.block_lt_of_cell? w _ hx249_2)).trans hx249_2
         replace p249:=eq_true p249
         replace q249:=eq_true q249
         try go_wp2_with (first|((with_reducible refine gate_callee (f:=44) rfl ?_);refine goesL_ (some 30) rfl rfl Tryd.func44 (by kernel_rfl) rfl #[.string ((rd_T66 l0 x6_1).f0)] rfl (by (try simp only [List.map_toArray,List.map_cons,List.map_nil]);try rfl) ?_;(with_reducible refine (barqueref01_Text.calls k1 ((rd_T66 l0 x6_1).f0) t250 t251 _ A9.out).mono ?_);rintro e w15 ⟨rfl,hb⟩;refine ⟨_,rfl,?_⟩;have n0_:=Aside0.mk (below_step (by repeat (first|(with_reducible first|exact HB.out|apply below_alloc|apply pw_below_drewN|apply below_drew1)|exact HB.out)) hb);clear HB;have HB:=n0_;clear n0_))
         have n0_:=Aside0.mk (below_drew1 HB.out)
         clear HB
         have HB:=n0_
         clear n0_
         have p252:0≤(x6_1:Int):=of_decide_eq_true (by assumption)
         have q252:x6_1 < (l0.length:Int):=of_decide_eq_true (by assumption)
         obtain ⟨ad252,e252,hx252_0,hx252_1,hx252_2⟩:=at_T66 HR0.out x6_1 p252 q252
         have hw252_2:=hx252_2
         have hw252_1:=hx252_1
         have hw252_0:=hx252_0
         obtain rfl:ad249=ad252:=(by injection e252)
         replace hx252_0:=(HB.out.cell (World.block_lt_of_cell? w _ hx252_0)).trans hx252_0
         replace hx252_1:=(HB.out.cell (World.block_lt_of_cell? w _ hx252_1)).trans hx252_1
         replace hx252_2:=(HB.out.cell (World.block_lt_of_cell? w _ hx252_2)).trans hx252_2
         replace p252:=eq_true p252
         replace q252:=eq_true q252
         have p254:0≤(x6_1:Int):=of_decide_eq_true (by assumption)
         have q254:x6_1 < (l0.length:Int):=of_decide_eq_true (by assumption)
         obtain ⟨ad254,e254,hx254_0,hx254_1,hx254_2⟩:=at_T66 HR0.out x6_1 p254 q254
         have hw254_2:=hx254_2
         have hw254_1:=hx254_1
         have hw254_0:=hx254_0
         obtain rfl:ad249=ad254:=(by injection e254)
         replace hx254_0:=(HB.out.cell (World.block_lt_of_cell? w _ hx254_0)).trans hx254_0
         replace hx254_1:=(HB.out.cell (World.block_lt_of_cell? w _ hx254_1)).trans hx254_1
         replace hx254_2:=(HB.out.cell (World.block_lt_of_cell? w _ hx254_2)).trans hx254_2
         replace p254:=eq_true p254
         replace q254:=eq_true q254
         refine start_ (n:=19) (S:=fun w'=>w'.cell? (ad249.add ((x6_1).toNat*3))=some (.string ((rd_T66 l0 x6_1).f0))∧w'.cell? ⟨(ad249.add ((x6_1).toNat*3)).block,(ad249.add ((x6_1).toNat*3)).off+1,none⟩=some (.int .i64 ((rd_T66 l0 x6_1).f1))∧w'.cell? ⟨(ad249.add ((x6_1).toNat*3)).block,(ad249.add ((x6_1).toNat*3)).off+2,none⟩=some (.string ((rd_T66 l0 x6_1).f2))∧w'.cell? (ad249.add ((x6_1).toNat*3))=some (.string ((rd_T66 l0 x6_1).f0))∧w'.cell? ⟨(ad249.add ((x6_1).toNat*3)).block,(ad249.add ((x6_1).toNat*3)).off+1,none⟩=some (.int .i64 ((rd_T66 l0 x6_1).f1))∧w'.cell? ⟨(ad249.add ((x6_1).toNat*3)).block,(ad249.add ((x6_1).toNat*3)).off+2,none⟩=some (.string ((rd_T66 l0 x6_1).f2))) (ds:=[]) (TF [0,19]) (by kernel_rfl) rfl rfl ⟨((HB.out.cell (World.block_lt_of_cell? w _ hw252_0)).trans hw252_0),((HB.out.cell (World.block_lt_of_cell? w _ hw252_1)).trans hw252_1),((HB.out.cell (World.block_lt_of_cell? w _ hw252_2)).trans hw252_2),((HB.out.cell (World.block_lt_of_cell? w _ hw254_0)).trans hw254_0),((HB.out.cell (World.block_lt_of_cell? w _ hw254_1)).trans hw254_1),((HB.out.cell (World.block_lt_of_cell? w _ hw254_2)).trans hw254_2)⟩ (fun hHeld=>?_);refine with_tabW barqueref10_Of.tab9 barqueref10_Of.bits9 (fun HT_ HW_=>?_)
         generalize w15.drew=w16 at HB hx252_0 hx252_1 hx252_2 hx254_0 hx254_1 hx254_2 hHeld ⊢
         apply pu 0 (some 33) [1,18] rfl rfl (any_of HT_.out (by kernel_rfl)) (fun _ _ _ h=>h) (by rfl)
         ·intro w';go_simp;with_reducible rfl
         ·simp only [Act.put,List.setIfInBounds_toArray,List.set_cons_zero,List.set_cons_succ,i64_w];rfl
         apply pu 1 (some 34) [2,17] rfl rfl (any_of HT_.out (by kernel_rfl)) (fun _ _ _ h=>h) (by rfl)
         ·intro w';go_simp;with_reducible rfl
         ·simp only [Act.put,List.setIfInBounds_toArray,List.set_cons_zero,List.set_cons_succ,i64_w];rfl
         apply pu 2 (some 35) [3,16] rfl rfl (any_of HT_.out (by kernel_rfl)) (fun _ _ _ h=>h) (by rfl)
         ·intro w';go_simp;with_reducible rfl
         ·simp only [Act.put,List.setIfInBounds_toArray,List.set_cons_zero,List.set_cons_succ,i64_w];rfl
         apply pu 3 (some 36) [4,15] rfl rfl (any_of HT_.out (by kernel_rfl)) (fun _ _ _ h=>h) (by rfl)
         ·intro w';go_simp;with_reducible rfl
         ·simp only [Act.put,List.setIfInBounds_toArray,List.set_cons_zero,List.set_cons_succ,i64_w];rfl
         apply pu 4 (some 37) [5,14] rfl rfl (any_of HT_.out (by kernel_rfl)) (fun _ _ _ h=>h) (by rfl)
         ·intro w';go_simp;with_reducible rfl
         ·simp only [Act.put,List.setIfInBounds_toArray,List.set_cons_zero,List.set_cons_succ,i64_w];rfl
         apply pu 5 (some 38) [6,13] rfl rfl (any_of HT_.out (by kernel_rfl)) (fun _ _ _ h=>h) (by rfl)
         ·intro w';go_simp;with_reducible rfl
         ·simp only [Act.put,List.setIfInBounds_toArray,List.set_cons_zero,List.set_cons_succ,i64_w];rfl
         apply pu 6 (some 39) [7,12] rfl rfl (any_of HT_.out (by kernel_rfl)) (fun _ _ _ h=>h) (by rfl)
         ·intro w';go_simp;with_reducible rfl
         ·simp only [Act.put,List.setIfInBounds_toArray,List.set_cons_zero,List.set_cons_succ,i64_w];rfl
         apply pu 10 (some 43) [7,3,1,8] rfl rfl (any_of HT_.out (by kernel_rfl)) (fun _ _ _ h=>h) (by rfl)
         ·intro w';go_simp;with_reducible rfl
         ·simp only [Act.put,List.setIfInBounds_toArray,List.set_cons_zero,List.set_cons_succ,i64_w];rfl
         apply pu 11 (some 44) [7,3,2,7] rfl rfl (any_of HT_.out (by kernel_rfl)) (fun _ _ _ h=>h) (by rfl)
         ·intro w';go_simp;with_reducible rfl
         ·simp only [Act.put,List.setIfInBounds_toArray,List.set_cons_zero,List.set_cons_succ,i64_w];rfl
         apply pu 12 (some 45) [7,3,3,6] rfl rfl (any_of HT_.out (by kernel_rfl)) (fun _ _ _ h=>h) (by rfl)
         ·intro w';go_simp;with_reducible rfl
         ·simp only [Act.put,List.setIfInBounds_toArray,List.set_cons_zero,List.set_cons_succ,i64_w];rfl
         apply pu 13 (some 46) [7,3,4,5] rfl rfl (any_of HT_.out (by kernel_rfl)) (fun _ _ _ h=>h) (by rfl)
         ·intro w';go_simp;with_reducible rfl
         ·simp only [Act.put,List.setIfInBounds_toArray,List.set_cons_zero,List.set_cons_succ,i64_w];rfl
         apply tk 7 (some 40) [8,2,4,5] rfl rfl (take_ofW HT_.out HW_.out (by kernel_rfl)) (fun _ _ _ h=>h) hHeld (by rfl)
         ·rintro w' ⟨s0,s1,s2,s3,s4,s5⟩;go_simp;with_reducible rfl
         ·simp only [Act.put,List.setIfInBounds_toArray,List.set_cons_zero,List.set_cons_succ,i64_w];rfl
         apply tk 14 (some 47) [8,2,5,4] rfl rfl (take_ofW HT_.out HW_.out (by kernel_rfl)) (fun _ _ _ h=>h) hHeld (by rfl)
         ·rintro w' ⟨s0,s1,s2,s3,s4,s5⟩;go_simp;with_reducible rfl
         ·simp only [Act.put,List.setIfInBounds_toArray,List.set_cons_zero,List.set_cons_succ,i64_w];rfl
         apply pu 15 (some 48) [8,2,6,3] rfl rfl (any_of HT_.out (by kernel_rfl)) (fun _ _ _ h=>h) (by rfl)
         ·intro w';go_simp;with_reducible rfl
         ·simp only [Act.put,List.setIfInBounds_toArray,List.set_cons_zero,List.set_cons_succ,i64_w];rfl
         refine one_ (i:=8) (N:=some 41) (TF [9,1,6,3]) rfl rfl (one_of HT_.out (by kernel_rfl)) (by decide) (fun K hK=>?_)
         refine goes_ Tryd.func43 (by kernel_rfl) rfl #[.int .i64 ((rd_T66 l0 x6_1).f1)] (by rfl) rfl rfl (by (try simp only [List.map_toArray,List.map_cons,List.map_nil]);try rfl) ?_
         with_reducible refine (barqueref01_Bytes.calls k1 ((rd_T66 l0 x6_1).f1) t253 _ A11.out).mono ?_
         rintro e w17 ⟨rfl,hb⟩
         refine ⟨_,rfl,?_⟩
         have n0_:=Aside0.mk (below_step (by repeat (first|(with_reducible first|exact HB.out|apply below_alloc|apply pw_below_drewN|apply below_drew1)|exact HB.out)) hb)
         clear HB
         have HB:=n0_
         clear n0_
         (try clear hb)
         (try clear hb2)
         (try clear hk)
         (try clear hi)
         refine hK.out _ _ ⟨((HB.out.cell (World.block_lt_of_cell? w _ hw252_0)).trans hw252_0),((HB.out.cell (World.block_lt_of_cell? w _ hw252_1)).trans hw252_1),((HB.out.cell (World.block_lt_of_cell? w _ hw252_2)).trans hw252_2),((HB.out.cell (World.block_lt_of_cell? w _ hw254_0)).trans hw254_0),((HB.out.cell (World.block_lt_of_cell? w _ hw254_1)).trans hw254_1),((HB.out.cell (World.block_lt_of_cell? w _ hw254_2)).trans hw254_2)⟩ (fun hHeld=>?_)
         clear hK K
         refine norm_ (a':=?_) ?_ ?_
         rotate_left
         ·show Act.put _ (some 41) _=_
          simp only [Act.put,List.setIfInBounds_toArray,List.set_cons_zero,List.set_cons_succ,i64_w]
          rfl
         apply pu 9 (some 42) [16,3] rfl rfl (any_of HT_.out (by kernel_rfl)) (fun _ _ _ h=>h) (by rfl)
         ·intro w';go_simp;with_reducible rfl
         ·simp only [Act.put,List.setIfInBounds_toArray,List.set_cons_zero,List.set_cons_succ,i64_w];rfl
         refine one_ (i:=16) (N:=some 49) (TF [17,2]) rfl rfl (one_of HT_.out (by kernel_rfl)) (by decide) (fun K hK=>?_)
         refine goes_ Tryd.func43 (by kernel_rfl) rfl #[.int .i64 (((rd_T66 l0 x6_1).f2).size:Int)] (by rfl) rfl rfl (by (try simp only [List.map_toArray,List.map_cons,List.map_nil]);try rfl) ?_
         with_reducible refine (barqueref01_Bytes.calls k1 (((rd_T66 l0 x6_1).f2).size:Int) t255 _ A13.out).mono ?_
         rintro e w18 ⟨rfl,hb⟩
         refine ⟨_,rfl,?_⟩
         have n0_:=Aside0.mk (below_step (by repeat (first|(with_reducible first|exact HB.out|apply below_alloc|apply pw_below_drewN|apply below_drew1)|exact HB.out)) hb)
         clear HB
         have HB:=n0_
         clear n0_
         (try clear hb)
         (try clear hb2)
         (try clear hk)
         (try clear hi)
         refine hK.out _ _ ⟨((HB.out.cell (World.block_lt_of_cell? w _ hw252_0)).trans hw252_0),((HB.out.cell (World.block_lt_of_cell? w _ hw252_1)).trans hw252_1),((HB.out.cell (World.block_lt_of_cell? w _ hw252_2)).trans hw252_2),((HB.out.cell (World.block_lt_of_cell? w _ hw254_0)).trans hw254_0),((HB.out.cell (World.block_lt_of_cell? w _ hw254_1)).trans hw254_1),((HB.out.cell (World.block_lt_of_cell? w _ hw254_2)).trans hw254_2)⟩ (fun hHeld=>?_)
         clear hK K
         refine norm_ (a':=?_) ?_ ?_
         rotate_left
         ·show Act.put _ (some 49) _=_
          simp only [Act.put,List.setIfInBounds_toArray,List.set_cons_zero,List.set_cons_succ,i64_w]
          rfl
         apply pu 17 (some 50) [18,1] rfl rfl (any_of HT_.out (by kernel_rfl)) (fun _ _ _ h=>h) (by rfl)
         ·intro w';go_simp;with_reducible rfl
         ·simp only [Act.put,List.setIfInBounds_toArray,List.set_cons_zero,List.set_cons_succ,i64_w];rfl
         apply pu 18 (some 5) [19] rfl rfl (any_of HT_.out (by kernel_rfl)) (fun _ _ _ h=>h) (by rfl)
         ·intro w';go_simp;with_reducible rfl
         ·simp only [Act.put,List.setIfInBounds_toArray,List.set_cons_zero,List.set_cons_succ,i64_w];rfl
         refine done_ (done_of HT_.out (by kernel_rfl)) ?_
         try go_wp2
         go_roundg k1
         case measure=>have:=HK1.out;omega
         case rel=>exact ⟨(((x5_1++t250)++t253)++t255),(wrap64 (x6_1+1)),(by first|rfl|(simp;done)|(simp [*];done)),(by first|rfl|(simp;done)|(simp [*];done)),H',⟨by have:=HK1.out;omega⟩,⟨by repeat (first|(with_reducible first|exact HB.out|apply below_alloc|apply pw_below_drewN|apply below_drew1)|exact HB.out)⟩⟩
        ·rw [if_neg c14] at H
         exact absurd H (by simp)
       ·rw [if_neg c12] at H
        exact absurd H (by simp)
      ·rw [if_neg c10] at H
       exact absurd H (by simp)
     ·rw [if_neg c8] at H
      exact absurd H (by simp)
    ·rw [if_neg c7] at H
     have c7b0:decide (x6_1 < (l0.length:Int))=false:=decide_eq_false c7
     clear c7
     have H':=Aside0.mk H
     clear H
     go_wp2
     go_loopg [5,9] k1 (fun kq v5 v9 w'=> ∃(x5_2:ByteArray) (x9_2:Int),v5= .string x5_2∧v9= .int .i64 x9_2∧Aside0 (barqueref10_Of.l1 kq l0 x5_2 x9_2=some (r1,r2))∧Aside0 (kq≤k1)∧Aside0 (Below w.heap.size w w'))
     case atStart=>exact ⟨(x5_1),(0),(by first|rfl|(simp;done)|(simp [*];done)),(by first|rfl|(simp;done)|(simp [*];done)),H',⟨Nat.le_refl _⟩,⟨by repeat (first|(with_reducible first|exact HB.out|apply below_alloc|apply pw_below_drewN|apply below_drew1)|exact HB.out)⟩⟩
     case round=>
      clear H'
      obtain ⟨x5_2,x9_2,rfl,rfl,HA,HK2,HB⟩:=hrel
      cases gk with
      |zero=>exact absurd HA.out (by simp [barqueref10_Of.l1])
      |succ k2=>
       have H:=HA.out
       clear HA
       simp only [barqueref10_Of.l1] at H
       by_cases c19:x9_2 < (l0.length:Int)
       ·rw [if_pos c19] at H
        have c19b0:decide (x9_2 < (l0.length:Int))=true:=decide_eq_true c19
        clear c19
        by_cases c20:0≤x9_2
        ·rw [if_pos c20] at H
         have c20b0:decide (0≤x9_2)=true:=decide_eq_true c20
         clear c20
         by_cases c21:x5_2.size+((rd_T66 l0 x9_2).f2).size≤9223372036854775807
         ·rw [if_pos c21] at H
          have c21b0:=eq_true c21
          have c21b1:decide (x5_2.size+((rd_T66 l0 x9_2).f2).size≤9223372036854775807)=true:=decide_eq_true c21
          try have c21b2:(9223372036854775807 < x5_2.size+((rd_T66 l0 x9_2).f2).size)=False:=eq_false (Nat.not_lt.2 c21)
          by_cases c22:((x5_2++((rd_T66 l0 x9_2).f2)).size:Int) > 524288
          ·rw [if_pos c22] at H
           have c22b0:decide (524288 < ((x5_2++((rd_T66 l0 x9_2).f2)).size:Int))=true:=decide_eq_true c22
           have c22b1:decide (524288 < (x5_2++((rd_T66 l0 x9_2).f2)).size)=true:=decide_eq_true (by omega)
           have c22b2:decide (524288 < x5_2.size+((rd_T66 l0 x9_2).f2).size)=true:=by rw [← ByteArray.size_append];exact c22b1
           have c22b3:decide (524288 < (x5_2.size:Int)+(((rd_T66 l0 x9_2).f2).size:Int))=true:=decide_eq_true (by have:=of_decide_eq_true c22b2;omega)
           clear c22
           simp only [Option.some.injEq,Prod.mk.injEq] at H
           obtain ⟨rfl,rfl⟩:=H
           have p256:0≤(x9_2:Int):=of_decide_eq_true (by assumption)
           have q256:x9_2 < (l0.length:Int):=of_decide_eq_true (by assumption)
           obtain ⟨ad256,e256,hx256_0,hx256_1,hx256_2⟩:=at_T66 HR0.out x9_2 p256 q256
           cases e256
           replace hx256_0:=(HB.out.cell (World.block_lt_of_cell? w _ hx256_0)).trans hx256_0
           replace hx256_1:=(HB.out.cell (World.block_lt_of_cell? w _ hx256_1)).trans hx256_1
           replace hx256_2:=(HB.out.cell (World.block_lt_of_cell? w _ hx256_2)).trans hx256_2
           replace p256:=eq_true p256
           replace q256:=eq_true q256
           go_wp2
           go_ret2
           exact ⟨by first|rfl|(simp [errW_none]<;>rfl)|(simp [*]<;>rfl),by repeat (first|(with_reducible first|exact HB.out|apply below_alloc|apply pw_below_drewN|apply below_drew1)|exact HB.out)⟩
          ·rw [if_neg c22] at H
           have c22b0:decide (524288 < ((x5_2++((rd_T66 l0 x9_2).f2)).size:Int))=false:=decide_eq_false c22
           have c22b1:decide (524288 < (x5_2++((rd_T66 l0 x9_2).f2)).size)=false:=decide_eq_false (by omega)
           have c22b2:decide (524288 < x5_2.size+((rd_T66 l0 x9_2).f2).size)=false:=by rw [← ByteArray.size_append];exact c22b1
           have c22b3:decide (524288 < (x5_2.size:Int)+(((rd_T66 l0 x9_2).f2).size:Int))=false:=decide_eq_false (by have:=of_decide_eq_false c22b2;omega)
           clear c22
           have H':=Aside0.mk H
           clear H
           have p256:0≤(x9_2:Int):=of_decide_eq_true (by assumption)
           have q256:x9_2 < (l0.length:Int):=of_decide_eq_true (by assumption)
           obtain ⟨ad256,e256,hx256_0,hx256_1,hx256_2⟩:=at_T66 HR0.out x9_2 p256 q256
           cases e256
           replace hx256_0:=(HB.out.cell (World.block_lt_of_cell? w _ hx256_0)).trans hx256_0
           replace hx256_1:=(HB.out.cell (World.block_lt_of_cell? w _ hx256_1)).trans hx256_1
           replace hx256_2:=(HB.out.cell (World.block_lt_of_cell? w _ hx256_2)).trans hx256_2
           replace p256:=eq_true p256
           replace q256:=eq_true q256
           go_wp2
           go_roundg k2
           case measure=>have:=HK1.out;have:=HK2.out;omega
           case rel=>exact ⟨(x5_2++((rd_T66 l0 x9_2).f2)),(wrap64 (x9_2+1)),(by first|rfl|(simp;done)|(simp [*];done)),(by first|rfl|(simp;done)|(simp [*];done)),H',⟨by have:=HK1.out;have:=HK2.out;omega⟩,⟨by repeat (first|(with_reducible first|exact HB.out|apply below_alloc|apply pw_below_drewN|apply below_drew1)|exact HB.out)⟩⟩
         ·rw [if_neg c21] at H
          exact absurd H (by simp)
        ·rw [if_neg c20] at H
         exact absurd H (by simp)
       ·rw [if_neg c19] at H
        have c19b0:decide (x9_2 < (l0.length:Int))=false:=decide_eq_false c19
        clear c19
        simp only [Option.some.injEq,Prod.mk.injEq] at H
        obtain ⟨rfl,rfl⟩:=H
        go_wp2
        go_ret2
        exact ⟨by first|rfl|(simp [errW_none]<;>rfl)|(simp [*]<;>rfl),by repeat (first|(with_reducible first|exact HB.out|apply below_alloc|apply pw_below_drewN|apply below_drew1)|exact HB.out)⟩
 ·rw [if_neg c3] at H
  have c3b0:(t247 == 0)=false:=beq_eq_false_iff_ne.mpr c3
  have c3b1:(t247 != 0)=true:=bne_iff_ne.mpr c3
  simp only [Option.some.injEq,Prod.mk.injEq] at H
  obtain ⟨rfl,rfl⟩:=H
  go_enter Tryd.func30,Tryd.ntmps30
  go_wp2_with (first|((with_reducible refine gate_callee (f:=42) rfl ?_);refine goesL_ (some 11) rfl rfl Tryd.func42 (by kernel_rfl) rfl #[.slice A0 l0.length c0] rfl (by (try simp only [List.map_toArray,List.map_cons,List.map_nil]);try rfl) ?_;(with_reducible refine (barqueref09_Check.calls k _ _ l0 t247 _ ?side1 ?side2 A2.out).mono ?_);(case side1=>repeat (first|exact HR0.out|(with_reducible refine Kd.C_alloc ?_ _)|(with_reducible refine Kd.C_drewN ?_ _)|(with_reducible refine Kd.C_drew ?_)));(case side2=>exact HC0.out);rintro e w23 ⟨rfl,hb⟩;refine ⟨_,rfl,?_⟩;have n0_:=Aside0.mk (below_step (by repeat (first|(with_reducible first|exact HB.out|apply below_alloc|apply pw_below_drewN|apply below_drew1)|exact HB.out)) hb);clear HB;have HB:=n0_;clear n0_))
  go_ret2
  exact ⟨by first|rfl|(simp [errW_none]<;>rfl)|(simp [*]<;>rfl),by repeat (first|(with_reducible first|exact HB.out|apply below_alloc|apply pw_below_drewN|apply below_drew1)|exact HB.out)⟩
end Go.Proofs.YthejnffhfmdpnaaDoor.Q

end

section
namespace Go.Proofs.YthejnffhfmdpnaaDoor.Spec
set_option linter.unusedVariables false
open Go.RowKit Go.Proofs.YthejnffhfmdpnaaDoor.Q Go.Proofs.YthejnffhfmdpnaaDoorW.PrintWords Go.Proofs.YthejnffhfmdpnaaDoorW.PrintLast Go.Proofs.YthejnffhfmdpnaaDoorW.PrintMore
def fileL (x:S66):List UInt8:=numL x.f0.size++x.f0.data.toList++numL x.f1.toNat++numL x.f2.size
def hdL:List S66→List UInt8
 | []=>[]
 |x::t=>fileL x++hdL t
def datasP:List S66→List UInt8→List UInt8 × Int
 | [],acc=>(acc,0)
 |x::t,acc=>if acc.length+x.f2.size > 524288 then ([],4) else datasP t (acc++x.f2.data.toList)
def ofP (l:List S66):ByteArray × Int:=if checkP l=0 then (bs (datasP l (numL l.length++hdL l)).1,(datasP l (numL l.length++hdL l)).2) else (bs [],checkP l)
def Fit (x:S66):Prop:=x.f0.size≤200∧0≤x.f1∧x.f1≤511∧x.f2.size≤65536
theorem fileL_len (x:S66) (h:Fit x):(fileL x).length≤300:=by
 have h1:=numL_le x.f0.size
 have h2:=numL_le x.f1.toNat
 have h3:=numL_le x.f2.size
 have h4:=h.1
 unfold fileL
 simp only [List.length_append,dlen]
 omega
theorem hdL_len: ∀(l:List S66),(∀f ∈ l,Fit f)→(hdL l).length≤300*l.length
 | [],_=>by simp [hdL]
 |x::t,h=>by
  have h1:=fileL_len x (h x List.mem_cons_self)
  have h2:=hdL_len t (fun f hf=>h f (List.mem_cons_of_mem _ hf))
  rw [hdL,List.length_append,List.length_cons]
  omega
theorem codeNum_nat (k:Nat) (n:Int) (hk:12≤k) (h0:0≤n) (h1:n < 4611686018427387904):code_Num.f k n=some (bs (numL n.toNat),0):=by
 have:=codeNum_in k n.toNat (by omega) hk
 rwa [show ((n.toNat:Nat):Int)=n by omega] at this
theorem heads_eq (k:Nat) (hk:12≤k): ∀(l:List S66) (acc:List UInt8),(∀f ∈ l,Fit f)→acc.length+300*l.length≤1000000→image_Of.heads k l (bs acc)=some (bs (acc++hdL l))
 | [],acc,_,_=>by rw [image_Of.heads,hdL,List.append_nil]
 |x::t,acc,h,hl=>by
  have hx:=h x List.mem_cons_self
  have hf:=fileL_len x hx
  have h1:=numL_le x.f0.size
  have h2:=numL_le x.f1.toNat
  have h3:=numL_le x.f2.size
  have hx1:=hx.1
  rw [List.length_cons] at hl
  rw [image_Of.heads,codeNum_in k _ (by omega) hk,codeNum_nat k _ hk hx.2.1 (by have:=hx.2.2.1;omega),codeNum_in k _ (by have:=hx.2.2.2;omega) hk]
  simp only [Option.bind_some,bs_size]
  rw [if_pos (by omega)]
  have e:bs acc++bs (numL x.f0.size)++x.f0++bs (numL x.f1.toNat)++bs (numL x.f2.size)=bs (acc++fileL x):=by
   conv=>lhs;rw [← bs_data x.f0]
   simp only [bs_append,fileL,List.append_assoc]
   rw [bs_data]
  rw [e,heads_eq k hk t _ (fun f hf=>h f (List.mem_cons_of_mem _ hf)) (by rw [List.length_append];omega),hdL,List.append_assoc]
theorem datas_eq: ∀(l:List S66) (acc:List UInt8),acc.length≤1000000→image_Of.datas l (bs acc)=some (bs (datasP l acc).1,(datasP l acc).2)
 | [],acc,_=>rfl
 |x::t,acc,h=>by
  rw [image_Of.datas,datasP,bs_size,if_pos (by omega)]
  by_cases hb:acc.length+x.f2.size > 524288
  ·rw [if_pos (by omega),if_pos hb]
   rfl
  ·rw [if_neg (by omega),if_neg hb]
   have e:bs acc++x.f2=bs (acc++x.f2.data.toList):=by rw [← bs_append,bs_data]
   rw [e]
   exact datas_eq t _ (by rw [List.length_append,dlen];omega)
theorem codeOf (k:Nat) (l:List S66) (hl:l.length < 1000000) (hk:2*l.length+1400≤k):image_Of.f k l=some (ofP l):=by
 unfold image_Of.f ofP
 rw [codeCheck k l hl hk,Option.bind_some]
 by_cases hc:checkP l=0
 ·have hz:=checkP_zero hc
  have hn:=numL_le l.length
  rw [if_pos hc,if_pos hc,codeNum_in k _ (by omega) (by omega),Option.bind_some,bs_size,if_pos (by omega),heads_eq k (by omega) l _ hz.2 (by omega),Option.bind_some]
  have hh:=hdL_len l hz.2
  exact datas_eq l _ (by rw [List.length_append];omega)
 ·rw [if_neg hc,if_neg hc]
  rfl
theorem refBytes (k:Nat) (n:Int) (hk:12≤k) (h0:0≤n) (h1:n < 4611686018427387904):barqueref01_Bytes.f k n=some (bs (numL n.toNat)):=by
 unfold barqueref01_Bytes.f
 have:=refNum_in k n.toNat (by omega) hk
 rw [show ((n.toNat:Nat):Int)=n by omega] at this
 rw [this]
 rfl
theorem refText (k:Nat) (s:ByteArray) (hk:12≤k) (h:s.size≤200):barqueref01_Text.f k s=some (bs (numL s.size++s.data.toList),0):=by
 unfold barqueref01_Text.f
 have hn:=numL_le s.size
 rw [if_neg (by omega),refBytes k _ hk (by omega) (by omega),Option.bind_some,Int.toNat_natCast,bs_size,if_pos (by omega), ← bs_append,bs_data]
theorem refOf_l1 (l:List S66) (hl:l.length < 1000000) (n:Nat): ∀(k i:Nat) (acc:List UInt8),i+n=l.length→n+1≤k→acc.length≤1000000→(∀f ∈ l,Fit f)→barqueref10_Of.l1 k l (bs acc) (i:Int)=some (bs (datasP (l.drop i) acc).1,(datasP (l.drop i) acc).2):=by
 induction n with
 |zero=>
  intro k i acc hi hk ha hF
  obtain ⟨k,rfl⟩: ∃m,k=m+1:=⟨k - 1,by omega⟩
  rw [barqueref10_Of.l1,if_neg (by omega),List.drop_eq_nil_of_le (by omega)]
  rfl
 |succ n ih=>
  intro k i acc hi hk ha hF
  obtain ⟨k,rfl⟩: ∃m,k=m+1:=⟨k - 1,by omega⟩
  have hil:i < l.length:=by omega
  have hx:=hF l[i] (List.getElem_mem _)
  have hx4:=hx.2.2.2
  rw [barqueref10_Of.l1,if_pos (by omega),if_pos (by omega),rd66_at l i hil,bs_size,if_pos (by omega),List.drop_eq_getElem_cons hil,datasP]
  have e:bs acc++l[i].f2=bs (acc++l[i].f2.data.toList):=by rw [← bs_append,bs_data]
  rw [e,bs_size,List.length_append,dlen]
  by_cases hb:acc.length+l[i].f2.size > 524288
  ·rw [if_pos (by omega),if_pos hb]
   rfl
  ·rw [if_neg (by omega),if_neg hb,w64 (by omega) (by omega),show (i:Int)+1=((i+1:Nat):Int) by omega]
   exact ih k (i+1) _ (by omega) (by omega) (by rw [List.length_append,dlen];omega) hF
theorem refOf_l0 (l:List S66) (hl:l.length≤256) (hF: ∀f ∈ l,Fit f) (n:Nat): ∀(k i:Nat) (acc:List UInt8),i+n=l.length→n+l.length+20≤k→acc.length+300*n≤100000→barqueref10_Of.l0 k l (bs acc) (i:Int)=some (bs (datasP l (acc++hdL (l.drop i))).1,(datasP l (acc++hdL (l.drop i))).2):=by
 induction n with
 |zero=>
  intro k i acc hi hk ha
  obtain ⟨k,rfl⟩: ∃m,k=m+1:=⟨k - 1,by omega⟩
  rw [barqueref10_Of.l0,if_neg (by omega),List.drop_eq_nil_of_le (by omega),hdL,List.append_nil]
  have:=refOf_l1 l (by omega) l.length k 0 acc (by omega) (by omega) (by omega) hF
  rw [List.drop_zero] at this
  exact this
 |succ n ih=>
  intro k i acc hi hk ha
  obtain ⟨k,rfl⟩: ∃m,k=m+1:=⟨k - 1,by omega⟩
  have hil:i < l.length:=by omega
  have hx:=hF l[i] (List.getElem_mem _)
  have hf:=fileL_len l[i] hx
  have h1:=numL_le l[i].f0.size
  have h2:=numL_le l[i].f1.toNat
  have h3:=numL_le l[i].f2.size
  have hx1:=hx.1
  have hx4:=hx.2.2.2
  rw [barqueref10_Of.l0,if_pos (by omega),if_pos (by omega),rd66_at l i hil,refText k _ (by omega) hx.1,Option.bind_some,refBytes k _ (by omega) hx.2.1 (by have:=hx.2.2.1;omega)]
  simp only [Option.bind_some,bs_append,bs_size]
  rw [if_pos (by simp only [List.length_append,dlen];omega),if_pos (by simp only [List.length_append,dlen];omega),refBytes k _ (by omega) (by omega) (by omega)]
  simp only [Option.bind_some,bs_append,bs_size,Int.toNat_natCast]
  rw [if_pos (by simp only [List.length_append,dlen];omega),w64 (by omega) (by omega),show (i:Int)+1=((i+1:Nat):Int) by omega]
  have e:acc++(numL l[i].f0.size++l[i].f0.data.toList)++numL l[i].f1.toNat++numL l[i].f2.size=acc++fileL l[i]:=by simp only [fileL,List.append_assoc]
  rw [e,ih k (i+1) _ (by omega) (by omega) (by rw [List.length_append];omega),List.drop_eq_getElem_cons hil,hdL,List.append_assoc]
theorem refOf (k:Nat) (l:List S66) (hl:l.length < 1000000) (hk:3*l.length+1700≤k):barqueref10_Of.f k l=some (ofP l):=by
 unfold barqueref10_Of.f ofP
 rw [refCheck k l hl hk,Option.bind_some]
 by_cases hc:checkP l=0
 ·have hz:=checkP_zero hc
  have hn:=numL_le l.length
  rw [if_pos hc,if_pos hc,refBytes k _ (by omega) (by omega) (by omega),Option.bind_some,Int.toNat_natCast]
  have:=refOf_l0 l hz.1 hz.2 l.length k 0 (numL l.length) (by omega) (by omega) (by omega)
  rw [List.drop_zero] at this
  exact this
 ·rw [if_neg hc,if_neg hc]
  rfl
end Go.Proofs.YthejnffhfmdpnaaDoor.Spec

end

section
namespace Go.Proofs.YthejnffhfmdpnaaDoor.Q
open Go.RowKit Go.Proofs.YthejnffhfmdpnaaDoorW.PrintWords Go.Proofs.YthejnffhfmdpnaaDoorW.PrintLast Go.Proofs.YthejnffhfmdpnaaDoorW.PrintMore
attribute [local go_sem] min2_int min_two
set_option linter.unusedVariables false
set_option linter.unusedSimpArgs false
def code_Read.f (a0:ByteArray):Option (ByteArray × Int × Int):=some (a0,0,0)
set_option maxHeartbeats 8000000 in
set_option maxRecDepth 100000 in
theorem code_Read.calls (a0:ByteArray) (r1:ByteArray) (r2:Int) (r3:Int) (w0 w:World) (hB:Below w0.heap.size w0 w) (h:code_Read.f a0=some (r1,r2,r3)):
  Calls Tryd.prog 74 #[.string a0] w fun e w'=> ∃g_:Nat,e= .returned (.pointer (some ⟨g_,0,none⟩))∧IsS126 w0 w' g_ r1 r2 r3∧Below w0.heap.size w0 w'∧Below w.heap.size w w':=by
 have hu126:=Tryd.underlying126
 have HBW:=Aside0.mk (Below.refl w.heap.size w)
 have HW0:=Aside0.mk hB.size
 have HB:=Aside0.mk hB
 clear hB
 have H:(some (a0,0,0))=some (r1,r2,r3):=h
 clear h
 simp only [Option.some.injEq,Prod.mk.injEq] at H
 obtain ⟨rfl,rfl,rfl⟩:=H
 go_enter Tryd.func74,Tryd.ntmps74
 go_wp2_with (first|((with_reducible refine gate_dst (N:=5) rfl ?_);refine box_event ?hg (N:=5) ?hd (cs:=#[.string a0, .int .i64 0, .int .i64 0]) (t:=126) ?hr ?_;(case hd=>rfl);(case hg=>rfl);(case hr=>first|(go_simp;done)|(go_simp;rfl));intro gb109 hg w2 hbox hb;have n0_:=Aside0.mk (below_step HBW.out hb);have n1_:=Aside0.mk (below_step (by repeat (first|(with_reducible first|exact HB.out|apply below_alloc|apply pw_below_drewN|apply below_drew1)|exact HB.out)) hb);have n2_:=Aside0.mk (hbox);have n3_:=Aside0.mk ((by rw [hg];exact (below_size (by repeat (first|(with_reducible first|exact HBW.out|apply below_alloc|apply pw_below_drewN|apply below_drew1)|exact HBW.out))):w.heap.size≤gb109));have n4_:=Aside0.mk ((Nat.le_trans HW0.out (by rw [hg];exact (below_size (by repeat (first|(with_reducible first|exact HBW.out|apply below_alloc|apply pw_below_drewN|apply below_drew1)|exact HBW.out))):w.heap.size≤gb109):w0.heap.size≤gb109));clear HBW;clear HB;have HBW:=n0_;have HB:=n1_;have BK109:=n2_;have GW109:=n3_;have GE109:=n4_;clear n0_ n1_ n2_ n3_ n4_;clear hb hbox hg))
 go_ret
 exact ⟨_,rfl,(show IsS126 w0 _ gb109 a0 0 0 from ⟨by (with_reducible repeat (first|refine blk_drewN ?_ _|refine blk_drew ?_|refine blk_alloc ?_ _));exact BK109.out,GE109.out⟩),by repeat (first|(with_reducible first|exact HB.out|apply below_alloc|apply pw_below_drewN|apply below_drew1|refine below_set ?_ GE109.out)|exact HB.out),by repeat (first|(with_reducible first|exact HBW.out|apply below_alloc|apply pw_below_drewN|apply below_drew1|refine below_set ?_ GW109.out)|exact HBW.out)⟩
end Go.Proofs.YthejnffhfmdpnaaDoor.Q

end
