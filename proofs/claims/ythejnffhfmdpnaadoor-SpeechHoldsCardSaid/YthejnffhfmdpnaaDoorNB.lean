/- Texts of this claim, in one file. -/
import Derived.Test.YthejnffhfmdpnaaDoorNA
section
namespace Go.Proofs.YthejnffhfmdpnaaDoor.Q
open Go.RowKit Go.Proofs.YthejnffhfmdpnaaDoorW.PrintWords Go.Proofs.YthejnffhfmdpnaaDoorW.PrintLast Go.Proofs.YthejnffhfmdpnaaDoorW.PrintMore
attribute [local go_sem] min2_int min_two
set_option linter.unusedVariables false
set_option linter.unusedSimpArgs false
def code_Reader_fail.f (s0_0:ByteArray) (s0_1:Int) (s0_2:Int) (a1:Int):Option (ByteArray × Int × Int):=(code_Reader_off.f s0_0 s0_1 s0_2).bind fun bt110=>(if bt110.1=true then (some (bt110.2.1,bt110.2.2.1,bt110.2.2.2)) else (some (bt110.2.1,bt110.2.2.1,a1)))
set_option maxHeartbeats 8000000 in
set_option maxRecDepth 100000 in
theorem code_Reader_fail.calls (g:Nat) (s0_0:ByteArray) (s0_1:Int) (s0_2:Int) (a1:Int) (r1:ByteArray) (r2:Int) (r3:Int) (w0 w:World) (hI:IsS126 w0 w g s0_0 s0_1 s0_2) (hB:Below w0.heap.size w0 w) (h:code_Reader_fail.f s0_0 s0_1 s0_2 a1=some (r1,r2,r3)):
  Calls Tryd.prog 87 #[.pointer (some ⟨g,0,none⟩), .int .i64 a1] w fun e w'=>e= .returned (.tuple #[])∧IsS126 w0 w' g r1 r2 r3∧Below w0.heap.size w0 w'∧KeepBut w w' g none:=by
 have HI0:=Aside0.mk hI
 have HK:=Aside0.mk (KeepBut.refl w g none)
 have HL:=Aside0.mk hB.size
 clear hI
 have HW0:=Aside0.mk hB.size
 have HB:=Aside0.mk hB
 clear hB
 have H:((code_Reader_off.f s0_0 s0_1 s0_2).bind fun bt110=>(if bt110.1=true then (some (bt110.2.1,bt110.2.2.1,bt110.2.2.2)) else (some (bt110.2.1,bt110.2.2.1,a1))))=some (r1,r2,r3):=h
 clear h
 replace H:=Option.bind_eq_some_iff.mp H
 obtain ⟨⟨t110,t111,t112,t113⟩,A30,H⟩:=H
 replace H:(if t110=true then (some (t111,t112,t113)) else (some (t111,t112,a1)))=some (r1,r2,r3):=H
 have A3:=Aside0.mk A30
 clear A30
 by_cases c4:t110=true
 ·subst c4
  have H1:(some (t111,t112,t113))=some (r1,r2,r3):=by rw [if_pos rfl] at H;exact H
  clear H
  have H:=H1
  clear H1
  simp only [Option.some.injEq,Prod.mk.injEq] at H
  obtain ⟨rfl,rfl,rfl⟩:=H
  go_enter Tryd.func87,Tryd.ntmps87
  go_wp2_with (first|((with_reducible refine gate_callee (f:=86) rfl ?_);refine goesL_ (some 5) rfl rfl Tryd.func86 (by kernel_rfl) rfl #[.pointer (some ⟨g,0,none⟩)] rfl (by (try simp only [List.map_toArray,List.map_cons,List.map_nil]);try rfl) ?_;(with_reducible refine (code_Reader_off.calls g s0_0 s0_1 s0_2 true t111 t112 t113 w0 _ ?side1 ?side2 A3.out).mono ?_);(case side1=>repeat (first|(with_reducible first|exact HI0.out|apply IsS126.alloc|apply IsS126.drewN|apply IsS126.drew|apply IsS126.set_0|apply IsS126.set_1|apply IsS126.set_2)|exact HI0.out));(case side2=>repeat (first|(with_reducible first|exact HB.out|apply below_alloc|apply pw_below_drewN|apply below_drew1|refine below_set ?_ (IsS126.ge HI0.out))|exact HB.out));rintro e w5 ⟨rfl,hi,hb,hk⟩;refine ⟨_,rfl,?_⟩;have n0_:=Aside0.mk (KeepBut.trans (by repeat (first|(with_reducible first|exact HK.out|apply KeepBut.set_|apply keep_drewN|apply keep_drew|apply keep_alloc)|exact HK.out)) hk (.inl rfl));have n1_:=Aside0.mk (hb);have n2_:=Aside0.mk (hi);clear HK;clear HB;clear HI0;have HK:=n0_;have HB:=n1_;have HI0:=n2_;clear n0_ n1_ n2_))
  first|go_end0|((try simp only [Exit.inBlock,Exit.then]);refine bodyPost_ret (results_none rfl _ _ _) rfl ?_)
  exact ⟨by first|rfl|(simp [errW_none]<;>rfl)|(simp [*]<;>rfl),by repeat (first|(with_reducible first|exact HI0.out|apply IsS126.alloc|apply IsS126.drewN|apply IsS126.drew|apply IsS126.set_0|apply IsS126.set_1|apply IsS126.set_2)|exact HI0.out),by repeat (first|(with_reducible first|exact HB.out|apply below_alloc|apply pw_below_drewN|apply below_drew1|refine below_set ?_ (IsS126.ge HI0.out))|exact HB.out),by repeat (first|(with_reducible first|exact HK.out|apply KeepBut.set_|apply keep_drewN|apply keep_drew|apply keep_alloc)|exact HK.out)⟩
 ·replace c4:=Bool.eq_false_iff.mpr c4
  subst c4
  have H1:(some (t111,t112,a1))=some (r1,r2,r3):=by rw [if_neg (show ¬(false=true) by decide)] at H;exact H
  clear H
  have H:=H1
  clear H1
  simp only [Option.some.injEq,Prod.mk.injEq] at H
  obtain ⟨rfl,rfl,rfl⟩:=H
  go_enter Tryd.func87,Tryd.ntmps87
  go_wp2_with (first|((with_reducible refine gate_callee (f:=86) rfl ?_);refine goesL_ (some 5) rfl rfl Tryd.func86 (by kernel_rfl) rfl #[.pointer (some ⟨g,0,none⟩)] rfl (by (try simp only [List.map_toArray,List.map_cons,List.map_nil]);try rfl) ?_;(with_reducible refine (code_Reader_off.calls g s0_0 s0_1 s0_2 false t111 t112 t113 w0 _ ?side1 ?side2 A3.out).mono ?_);(case side1=>repeat (first|(with_reducible first|exact HI0.out|apply IsS126.alloc|apply IsS126.drewN|apply IsS126.drew|apply IsS126.set_0|apply IsS126.set_1|apply IsS126.set_2)|exact HI0.out));(case side2=>repeat (first|(with_reducible first|exact HB.out|apply below_alloc|apply pw_below_drewN|apply below_drew1|refine below_set ?_ (IsS126.ge HI0.out))|exact HB.out));rintro e w6 ⟨rfl,hi,hb,hk⟩;refine ⟨_,rfl,?_⟩;have n0_:=Aside0.mk (KeepBut.trans (by repeat (first|(with_reducible first|exact HK.out|apply KeepBut.set_|apply keep_drewN|apply keep_drew|apply keep_alloc)|exact HK.out)) hk (.inl rfl));have n1_:=Aside0.mk (hb);have n2_:=Aside0.mk (hi);clear HK;clear HB;clear HI0;have HK:=n0_;have HB:=n1_;have HI0:=n2_;clear n0_ n1_ n2_;obtain ⟨HGz7,hgz7⟩:=HI0.out;have hcz7_0:=cellS126_0 HGz7;have hcz7_1:=cellS126_1 HGz7;have hcz7_2:=cellS126_2 HGz7;have hfz7_0:=blk_frozen HGz7 0;have hfz7_1:=blk_frozen HGz7 1;have hfz7_2:=blk_frozen HGz7 2;clear HGz7 hgz7))
  first|go_end0|((try simp only [Exit.inBlock,Exit.then]);refine bodyPost_ret (results_none rfl _ _ _) rfl ?_)
  exact ⟨by first|rfl|(simp [errW_none]<;>rfl)|(simp [*]<;>rfl),by repeat (first|(with_reducible first|exact HI0.out|apply IsS126.alloc|apply IsS126.drewN|apply IsS126.drew|apply IsS126.set_0|apply IsS126.set_1|apply IsS126.set_2)|exact HI0.out),by repeat (first|(with_reducible first|exact HB.out|apply below_alloc|apply pw_below_drewN|apply below_drew1|refine below_set ?_ (IsS126.ge HI0.out))|exact HB.out),by repeat (first|(with_reducible first|exact HK.out|apply KeepBut.set_|apply keep_drewN|apply keep_drew|apply keep_alloc)|exact HK.out)⟩
end Go.Proofs.YthejnffhfmdpnaaDoor.Q

end

section
namespace Go.Proofs.YthejnffhfmdpnaaDoor.Q
open Go.RowKit Go.Proofs.YthejnffhfmdpnaaDoorW.PrintWords Go.Proofs.YthejnffhfmdpnaaDoorW.PrintLast Go.Proofs.YthejnffhfmdpnaaDoorW.PrintMore
attribute [local go_sem] min2_int min_two
set_option linter.unusedVariables false
set_option linter.unusedSimpArgs false
def code_Reader_Byte.f (s0_0:ByteArray) (s0_1:Int) (s0_2:Int):Option (Int × ByteArray × Int × Int):=(code_Reader_off.f s0_0 s0_1 s0_2).bind fun bt114=>(if bt114.1=true then (some (0,bt114.2.1,bt114.2.2.1,bt114.2.2.2)) else (if bt114.2.2.1=(bt114.2.1.size:Int) then ((code_Reader_fail.f bt114.2.1 bt114.2.2.1 bt114.2.2.2 3).bind fun bt118=>(some (0,bt118.1,bt118.2.1,bt118.2.2))) else (if 0≤(wrap64 ((wrap64 (bt114.2.2.1+1)) - 1)) then (if (wrap64 ((wrap64 (bt114.2.2.1+1)) - 1)) < (bt114.2.1.size:Int) then (some (wrap64 (bt bt114.2.1 (wrap64 ((wrap64 (bt114.2.2.1+1)) - 1))),bt114.2.1,wrap64 (bt114.2.2.1+1),bt114.2.2.2)) else (none)) else (none))))
set_option maxHeartbeats 8000000 in
set_option maxRecDepth 100000 in
theorem code_Reader_Byte.calls (g:Nat) (s0_0:ByteArray) (s0_1:Int) (s0_2:Int) (r1:Int) (r2:ByteArray) (r3:Int) (r4:Int) (w0 w:World) (hI:IsS126 w0 w g s0_0 s0_1 s0_2) (hB:Below w0.heap.size w0 w) (h:code_Reader_Byte.f s0_0 s0_1 s0_2=some (r1,r2,r3,r4)):
  Calls Tryd.prog 89 #[.pointer (some ⟨g,0,none⟩)] w fun e w'=>e= .returned (.int .i64 r1)∧IsS126 w0 w' g r2 r3 r4∧Below w0.heap.size w0 w'∧KeepBut w w' g none:=by
 have HI0:=Aside0.mk hI
 have HK:=Aside0.mk (KeepBut.refl w g none)
 have HL:=Aside0.mk hB.size
 clear hI
 have HW0:=Aside0.mk hB.size
 have HB:=Aside0.mk hB
 clear hB
 have H:((code_Reader_off.f s0_0 s0_1 s0_2).bind fun bt114=>(if bt114.1=true then (some (0,bt114.2.1,bt114.2.2.1,bt114.2.2.2)) else (if bt114.2.2.1=(bt114.2.1.size:Int) then ((code_Reader_fail.f bt114.2.1 bt114.2.2.1 bt114.2.2.2 3).bind fun bt118=>(some (0,bt118.1,bt118.2.1,bt118.2.2))) else (if 0≤(wrap64 ((wrap64 (bt114.2.2.1+1)) - 1)) then (if (wrap64 ((wrap64 (bt114.2.2.1+1)) - 1)) < (bt114.2.1.size:Int) then (some (wrap64 (bt bt114.2.1 (wrap64 ((wrap64 (bt114.2.2.1+1)) - 1))),bt114.2.1,wrap64 (bt114.2.2.1+1),bt114.2.2.2)) else (none)) else (none)))))=some (r1,r2,r3,r4):=h
 clear h
 replace H:=Option.bind_eq_some_iff.mp H
 obtain ⟨⟨t114,t115,t116,t117⟩,A20,H⟩:=H
 replace H:(if t114=true then (some (0,t115,t116,t117)) else (if t116=(t115.size:Int) then ((code_Reader_fail.f t115 t116 t117 3).bind fun bt118=>(some (0,bt118.1,bt118.2.1,bt118.2.2))) else (if 0≤(wrap64 ((wrap64 (t116+1)) - 1)) then (if (wrap64 ((wrap64 (t116+1)) - 1)) < (t115.size:Int) then (some (wrap64 (bt t115 (wrap64 ((wrap64 (t116+1)) - 1))),t115,wrap64 (t116+1),t117)) else (none)) else (none))))=some (r1,r2,r3,r4):=H
 have A2:=Aside0.mk A20
 clear A20
 by_cases c3:t114=true
 ·subst c3
  have H1:(some (0,t115,t116,t117))=some (r1,r2,r3,r4):=by rw [if_pos rfl] at H;exact H
  clear H
  have H:=H1
  clear H1
  simp only [Option.some.injEq,Prod.mk.injEq] at H
  obtain ⟨rfl,rfl,rfl,rfl⟩:=H
  go_enter Tryd.func89,Tryd.ntmps89
  go_wp2_with (first|(go_at_call 86;(with_reducible refine (code_Reader_off.calls g s0_0 s0_1 s0_2 true t115 t116 t117 w0 _ ?side1 ?side2 A2.out).mono ?_);(case side1=>repeat (first|(with_reducible first|exact HI0.out|apply IsS126.alloc|apply IsS126.drewN|apply IsS126.drew|apply IsS126.set_0|apply IsS126.set_1|apply IsS126.set_2)|exact HI0.out));(case side2=>repeat (first|(with_reducible first|exact HB.out|apply below_alloc|apply pw_below_drewN|apply below_drew1|refine below_set ?_ (IsS126.ge HI0.out))|exact HB.out));rintro e w4 ⟨rfl,hi,hb,hk⟩;have n0_:=Aside0.mk (KeepBut.trans (by repeat (first|(with_reducible first|exact HK.out|apply KeepBut.set_|apply keep_drewN|apply keep_drew|apply keep_alloc)|exact HK.out)) hk (.inl rfl));have n1_:=Aside0.mk (hb);have n2_:=Aside0.mk (hi);clear HK;clear HB;clear HI0;have HK:=n0_;have HB:=n1_;have HI0:=n2_;clear n0_ n1_ n2_))
  repeat (go_quiet (first|(go_at_call 86;(with_reducible refine (code_Reader_off.calls g s0_0 s0_1 s0_2 true t115 t116 t117 w0 _ ?side1 ?side2 A2.out).mono ?_);(case side1=>repeat (first|(with_reducible first|exact HI0.out|apply IsS126.alloc|apply IsS126.drewN|apply IsS126.drew|apply IsS126.set_0|apply IsS126.set_1|apply IsS126.set_2)|exact HI0.out));(case side2=>repeat (first|(with_reducible first|exact HB.out|apply below_alloc|apply pw_below_drewN|apply below_drew1|refine below_set ?_ (IsS126.ge HI0.out))|exact HB.out));rintro e w4 ⟨rfl,hi,hb,hk⟩;have n0_:=Aside0.mk (KeepBut.trans (by repeat (first|(with_reducible first|exact HK.out|apply KeepBut.set_|apply keep_drewN|apply keep_drew|apply keep_alloc)|exact HK.out)) hk (.inl rfl));have n1_:=Aside0.mk (hb);have n2_:=Aside0.mk (hi);clear HK;clear HB;clear HI0;have HK:=n0_;have HB:=n1_;have HI0:=n2_;clear n0_ n1_ n2_));try go_wp2_with (first|(go_at_call 86;(with_reducible refine (code_Reader_off.calls g s0_0 s0_1 s0_2 true t115 t116 t117 w0 _ ?side1 ?side2 A2.out).mono ?_);(case side1=>repeat (first|(with_reducible first|exact HI0.out|apply IsS126.alloc|apply IsS126.drewN|apply IsS126.drew|apply IsS126.set_0|apply IsS126.set_1|apply IsS126.set_2)|exact HI0.out));(case side2=>repeat (first|(with_reducible first|exact HB.out|apply below_alloc|apply pw_below_drewN|apply below_drew1|refine below_set ?_ (IsS126.ge HI0.out))|exact HB.out));rintro e w4 ⟨rfl,hi,hb,hk⟩;have n0_:=Aside0.mk (KeepBut.trans (by repeat (first|(with_reducible first|exact HK.out|apply KeepBut.set_|apply keep_drewN|apply keep_drew|apply keep_alloc)|exact HK.out)) hk (.inl rfl));have n1_:=Aside0.mk (hb);have n2_:=Aside0.mk (hi);clear HK;clear HB;clear HI0;have HK:=n0_;have HB:=n1_;have HI0:=n2_;clear n0_ n1_ n2_)))
  go_ret
  exact ⟨by first|rfl|(simp [errW_none]<;>rfl)|(simp [*]<;>rfl),by repeat (first|(with_reducible first|exact HI0.out|apply IsS126.alloc|apply IsS126.drewN|apply IsS126.drew|apply IsS126.set_0|apply IsS126.set_1|apply IsS126.set_2)|exact HI0.out),by repeat (first|(with_reducible first|exact HB.out|apply below_alloc|apply pw_below_drewN|apply below_drew1|refine below_set ?_ (IsS126.ge HI0.out))|exact HB.out),by repeat (first|(with_reducible first|exact HK.out|apply KeepBut.set_|apply keep_drewN|apply keep_drew|apply keep_alloc)|exact HK.out)⟩
 ·replace c3:=Bool.eq_false_iff.mpr c3
  subst c3
  have H1:(if t116=(t115.size:Int) then ((code_Reader_fail.f t115 t116 t117 3).bind fun bt118=>(some (0,bt118.1,bt118.2.1,bt118.2.2))) else (if 0≤(wrap64 ((wrap64 (t116+1)) - 1)) then (if (wrap64 ((wrap64 (t116+1)) - 1)) < (t115.size:Int) then (some (wrap64 (bt t115 (wrap64 ((wrap64 (t116+1)) - 1))),t115,wrap64 (t116+1),t117)) else (none)) else (none)))=some (r1,r2,r3,r4):=by rw [if_neg (show ¬(false=true) by decide)] at H;exact H
  clear H
  have H:=H1
  clear H1
  by_cases c5:t116=(t115.size:Int)
  ·rw [if_pos c5] at H
   have c5b0:(t116 == (t115.size:Int))=true:=beq_iff_eq.mpr c5
   have c5b1:(t116 != (t115.size:Int))=false:=bne_eq_false_iff_eq.mpr c5
   clear c5
   replace H:=Option.bind_eq_some_iff.mp H
   obtain ⟨⟨t118,t119,t120⟩,A60,H⟩:=H
   replace H:(some (0,t118,t119,t120))=some (r1,r2,r3,r4):=H
   have A6:=Aside0.mk A60
   clear A60
   simp only [Option.some.injEq,Prod.mk.injEq] at H
   obtain ⟨rfl,rfl,rfl,rfl⟩:=H
   go_enter Tryd.func89,Tryd.ntmps89
   go_wp2_with (first|(go_at_call 86;(with_reducible refine (code_Reader_off.calls g s0_0 s0_1 s0_2 false t115 t116 t117 w0 _ ?side1 ?side2 A2.out).mono ?_);(case side1=>repeat (first|(with_reducible first|exact HI0.out|apply IsS126.alloc|apply IsS126.drewN|apply IsS126.drew|apply IsS126.set_0|apply IsS126.set_1|apply IsS126.set_2)|exact HI0.out));(case side2=>repeat (first|(with_reducible first|exact HB.out|apply below_alloc|apply pw_below_drewN|apply below_drew1|refine below_set ?_ (IsS126.ge HI0.out))|exact HB.out));rintro e w7 ⟨rfl,hi,hb,hk⟩;have n0_:=Aside0.mk (KeepBut.trans (by repeat (first|(with_reducible first|exact HK.out|apply KeepBut.set_|apply keep_drewN|apply keep_drew|apply keep_alloc)|exact HK.out)) hk (.inl rfl));have n1_:=Aside0.mk (hb);have n2_:=Aside0.mk (hi);clear HK;clear HB;clear HI0;have HK:=n0_;have HB:=n1_;have HI0:=n2_;clear n0_ n1_ n2_;obtain ⟨HGz8,hgz8⟩:=HI0.out;have hcz8_0:=cellS126_0 HGz8;have hcz8_1:=cellS126_1 HGz8;have hcz8_2:=cellS126_2 HGz8;have hfz8_0:=blk_frozen HGz8 0;have hfz8_1:=blk_frozen HGz8 1;have hfz8_2:=blk_frozen HGz8 2;clear HGz8 hgz8)|(go_at_call 87;(with_reducible refine (code_Reader_fail.calls g t115 t116 t117 3 t118 t119 t120 w0 _ ?side1 ?side2 A6.out).mono ?_);(case side1=>repeat (first|(with_reducible first|exact HI0.out|apply IsS126.alloc|apply IsS126.drewN|apply IsS126.drew|apply IsS126.set_0|apply IsS126.set_1|apply IsS126.set_2)|exact HI0.out));(case side2=>repeat (first|(with_reducible first|exact HB.out|apply below_alloc|apply pw_below_drewN|apply below_drew1|refine below_set ?_ (IsS126.ge HI0.out))|exact HB.out));rintro e w9 ⟨rfl,hi,hb,hk⟩;have n0_:=Aside0.mk (KeepBut.trans (by repeat (first|(with_reducible first|exact HK.out|apply KeepBut.set_|apply keep_drewN|apply keep_drew|apply keep_alloc)|exact HK.out)) hk (.inl rfl));have n1_:=Aside0.mk (hb);have n2_:=Aside0.mk (hi);clear HK;clear HB;clear HI0;have HK:=n0_;have HB:=n1_;have HI0:=n2_;clear n0_ n1_ n2_))
   repeat (go_quiet (first|(go_at_call 86;(with_reducible refine (code_Reader_off.calls g s0_0 s0_1 s0_2 false t115 t116 t117 w0 _ ?side1 ?side2 A2.out).mono ?_);(case side1=>repeat (first|(with_reducible first|exact HI0.out|apply IsS126.alloc|apply IsS126.drewN|apply IsS126.drew|apply IsS126.set_0|apply IsS126.set_1|apply IsS126.set_2)|exact HI0.out));(case side2=>repeat (first|(with_reducible first|exact HB.out|apply below_alloc|apply pw_below_drewN|apply below_drew1|refine below_set ?_ (IsS126.ge HI0.out))|exact HB.out));rintro e w7 ⟨rfl,hi,hb,hk⟩;have n0_:=Aside0.mk (KeepBut.trans (by repeat (first|(with_reducible first|exact HK.out|apply KeepBut.set_|apply keep_drewN|apply keep_drew|apply keep_alloc)|exact HK.out)) hk (.inl rfl));have n1_:=Aside0.mk (hb);have n2_:=Aside0.mk (hi);clear HK;clear HB;clear HI0;have HK:=n0_;have HB:=n1_;have HI0:=n2_;clear n0_ n1_ n2_;obtain ⟨HGz8,hgz8⟩:=HI0.out;have hcz8_0:=cellS126_0 HGz8;have hcz8_1:=cellS126_1 HGz8;have hcz8_2:=cellS126_2 HGz8;have hfz8_0:=blk_frozen HGz8 0;have hfz8_1:=blk_frozen HGz8 1;have hfz8_2:=blk_frozen HGz8 2;clear HGz8 hgz8)|(go_at_call 87;(with_reducible refine (code_Reader_fail.calls g t115 t116 t117 3 t118 t119 t120 w0 _ ?side1 ?side2 A6.out).mono ?_);(case side1=>repeat (first|(with_reducible first|exact HI0.out|apply IsS126.alloc|apply IsS126.drewN|apply IsS126.drew|apply IsS126.set_0|apply IsS126.set_1|apply IsS126.set_2)|exact HI0.out));(case side2=>repeat (first|(with_reducible first|exact HB.out|apply below_alloc|apply pw_below_drewN|apply below_drew1|refine below_set ?_ (IsS126.ge HI0.out))|exact HB.out));rintro e w9 ⟨rfl,hi,hb,hk⟩;have n0_:=Aside0.mk (KeepBut.trans (by repeat (first|(with_reducible first|exact HK.out|apply KeepBut.set_|apply keep_drewN|apply keep_drew|apply keep_alloc)|exact HK.out)) hk (.inl rfl));have n1_:=Aside0.mk (hb);have n2_:=Aside0.mk (hi);clear HK;clear HB;clear HI0;have HK:=n0_;have HB:=n1_;have HI0:=n2_;clear n0_ n1_ n2_));try go_wp2_with (first|(go_at_call 86;(with_reducible refine (code_Reader_off.calls g s0_0 s0_1 s0_2 false t115 t116 t117 w0 _ ?side1 ?side2 A2.out).mono ?_);(case side1=>repeat (first|(with_reducible first|exact HI0.out|apply IsS126.alloc|apply IsS126.drewN|apply IsS126.drew|apply IsS126.set_0|apply IsS126.set_1|apply IsS126.set_2)|exact HI0.out));(case side2=>repeat (first|(with_reducible first|exact HB.out|apply below_alloc|apply pw_below_drewN|apply below_drew1|refine below_set ?_ (IsS126.ge HI0.out))|exact HB.out));rintro e w7 ⟨rfl,hi,hb,hk⟩;have n0_:=Aside0.mk (KeepBut.trans (by repeat (first|(with_reducible first|exact HK.out|apply KeepBut.set_|apply keep_drewN|apply keep_drew|apply keep_alloc)|exact HK.out)) hk (.inl rfl));have n1_:=Aside0.mk (hb);have n2_:=Aside0.mk (hi);clear HK;clear HB;clear HI0;have HK:=n0_;have HB:=n1_;have HI0:=n2_;clear n0_ n1_ n2_;obtain ⟨HGz8,hgz8⟩:=HI0.out;have hcz8_0:=cellS126_0 HGz8;have hcz8_1:=cellS126_1 HGz8;have hcz8_2:=cellS126_2 HGz8;have hfz8_0:=blk_frozen HGz8 0;have hfz8_1:=blk_frozen HGz8 1;have hfz8_2:=blk_frozen HGz8 2;clear HGz8 hgz8)|(go_at_call 87;(with_reducible refine (code_Reader_fail.calls g t115 t116 t117 3 t118 t119 t120 w0 _ ?side1 ?side2 A6.out).mono ?_);(case side1=>repeat (first|(with_reducible first|exact HI0.out|apply IsS126.alloc|apply IsS126.drewN|apply IsS126.drew|apply IsS126.set_0|apply IsS126.set_1|apply IsS126.set_2)|exact HI0.out));(case side2=>repeat (first|(with_reducible first|exact HB.out|apply below_alloc|apply pw_below_drewN|apply below_drew1|refine below_set ?_ (IsS126.ge HI0.out))|exact HB.out));rintro e w9 ⟨rfl,hi,hb,hk⟩;have n0_:=Aside0.mk (KeepBut.trans (by repeat (first|(with_reducible first|exact HK.out|apply KeepBut.set_|apply keep_drewN|apply keep_drew|apply keep_alloc)|exact HK.out)) hk (.inl rfl));have n1_:=Aside0.mk (hb);have n2_:=Aside0.mk (hi);clear HK;clear HB;clear HI0;have HK:=n0_;have HB:=n1_;have HI0:=n2_;clear n0_ n1_ n2_)))
   go_ret
   exact ⟨by first|rfl|(simp [errW_none]<;>rfl)|(simp [*]<;>rfl),by repeat (first|(with_reducible first|exact HI0.out|apply IsS126.alloc|apply IsS126.drewN|apply IsS126.drew|apply IsS126.set_0|apply IsS126.set_1|apply IsS126.set_2)|exact HI0.out),by repeat (first|(with_reducible first|exact HB.out|apply below_alloc|apply pw_below_drewN|apply below_drew1|refine below_set ?_ (IsS126.ge HI0.out))|exact HB.out),by repeat (first|(with_reducible first|exact HK.out|apply KeepBut.set_|apply keep_drewN|apply keep_drew|apply keep_alloc)|exact HK.out)⟩
  ·rw [if_neg c5] at H
   have c5b0:(t116 == (t115.size:Int))=false:=beq_eq_false_iff_ne.mpr c5
   have c5b1:(t116 != (t115.size:Int))=true:=bne_iff_ne.mpr c5
   obtain ⟨ji10,hji10⟩: ∃j_:Int,(wrap64 ((wrap64 (t116+1)) - 1))=j_:=⟨_,rfl⟩
   replace H:(if 0≤(ji10) then (if (ji10) < (t115.size:Int) then (some (wrap64 (bt t115 (ji10)),t115,wrap64 (t116+1),t117)) else (none)) else (none))=some (r1,r2,r3,r4):=by first|(rw [hji10] at H;exact H)|(simp only [hji10] at H ⊢;exact H)
   (try rw [hji10] at A2)
   have hji10w:(IntKind.i64.wrap ((wrap64 (t116+1)) - 1))=ji10:=(i64_w _).trans hji10
   by_cases c11:0≤(ji10)
   ·rw [if_pos c11] at H
    have c11b0:decide (0≤(ji10))=true:=decide_eq_true c11
    clear c11
    by_cases c12:(ji10) < (t115.size:Int)
    ·rw [if_pos c12] at H
     have c12b0:decide ((ji10) < (t115.size:Int))=true:=decide_eq_true c12
     clear c12
     simp only [Option.some.injEq,Prod.mk.injEq] at H
     obtain ⟨rfl,rfl,rfl,rfl⟩:=H
     go_enter Tryd.func89,Tryd.ntmps89
     go_wp2_with (first|(go_at_call 86;(with_reducible refine (code_Reader_off.calls g s0_0 s0_1 s0_2 false t115 t116 t117 w0 _ ?side1 ?side2 A2.out).mono ?_);(case side1=>repeat (first|(with_reducible first|exact HI0.out|apply IsS126.alloc|apply IsS126.drewN|apply IsS126.drew|apply IsS126.set_0|apply IsS126.set_1|apply IsS126.set_2)|exact HI0.out));(case side2=>repeat (first|(with_reducible first|exact HB.out|apply below_alloc|apply pw_below_drewN|apply below_drew1|refine below_set ?_ (IsS126.ge HI0.out))|exact HB.out));rintro e w14 ⟨rfl,hi,hb,hk⟩;have n0_:=Aside0.mk (KeepBut.trans (by repeat (first|(with_reducible first|exact HK.out|apply KeepBut.set_|apply keep_drewN|apply keep_drew|apply keep_alloc)|exact HK.out)) hk (.inl rfl));have n1_:=Aside0.mk (hb);have n2_:=Aside0.mk (hi);clear HK;clear HB;clear HI0;have HK:=n0_;have HB:=n1_;have HI0:=n2_;clear n0_ n1_ n2_;obtain ⟨HGz15,hgz15⟩:=HI0.out;have hcz15_0:=cellS126_0 HGz15;have hcz15_1:=cellS126_1 HGz15;have hcz15_2:=cellS126_2 HGz15;have hfz15_0:=blk_frozen HGz15 0;have hfz15_1:=blk_frozen HGz15 1;have hfz15_2:=blk_frozen HGz15 2;clear HGz15 hgz15;have p13:0≤((ji10):Int):=of_decide_eq_true (by assumption);have q13:(ji10) < (t115.size:Int):=of_decide_eq_true (by assumption);have hx13:=bt_at t115 (ji10);replace p13:=eq_true p13;replace q13:=eq_true q13))
     repeat (go_quiet (first|(go_at_call 86;(with_reducible refine (code_Reader_off.calls g s0_0 s0_1 s0_2 false t115 t116 t117 w0 _ ?side1 ?side2 A2.out).mono ?_);(case side1=>repeat (first|(with_reducible first|exact HI0.out|apply IsS126.alloc|apply IsS126.drewN|apply IsS126.drew|apply IsS126.set_0|apply IsS126.set_1|apply IsS126.set_2)|exact HI0.out));(case side2=>repeat (first|(with_reducible first|exact HB.out|apply below_alloc|apply pw_below_drewN|apply below_drew1|refine below_set ?_ (IsS126.ge HI0.out))|exact HB.out));rintro e w14 ⟨rfl,hi,hb,hk⟩;have n0_:=Aside0.mk (KeepBut.trans (by repeat (first|(with_reducible first|exact HK.out|apply KeepBut.set_|apply keep_drewN|apply keep_drew|apply keep_alloc)|exact HK.out)) hk (.inl rfl));have n1_:=Aside0.mk (hb);have n2_:=Aside0.mk (hi);clear HK;clear HB;clear HI0;have HK:=n0_;have HB:=n1_;have HI0:=n2_;clear n0_ n1_ n2_;obtain ⟨HGz15,hgz15⟩:=HI0.out;have hcz15_0:=cellS126_0 HGz15;have hcz15_1:=cellS126_1 HGz15;have hcz15_2:=cellS126_2 HGz15;have hfz15_0:=blk_frozen HGz15 0;have hfz15_1:=blk_frozen HGz15 1;have hfz15_2:=blk_frozen HGz15 2;clear HGz15 hgz15;have p13:0≤((ji10):Int):=of_decide_eq_true (by assumption);have q13:(ji10) < (t115.size:Int):=of_decide_eq_true (by assumption);have hx13:=bt_at t115 (ji10);replace p13:=eq_true p13;replace q13:=eq_true q13));try go_wp2_with (first|(go_at_call 86;(with_reducible refine (code_Reader_off.calls g s0_0 s0_1 s0_2 false t115 t116 t117 w0 _ ?side1 ?side2 A2.out).mono ?_);(case side1=>repeat (first|(with_reducible first|exact HI0.out|apply IsS126.alloc|apply IsS126.drewN|apply IsS126.drew|apply IsS126.set_0|apply IsS126.set_1|apply IsS126.set_2)|exact HI0.out));(case side2=>repeat (first|(with_reducible first|exact HB.out|apply below_alloc|apply pw_below_drewN|apply below_drew1|refine below_set ?_ (IsS126.ge HI0.out))|exact HB.out));rintro e w14 ⟨rfl,hi,hb,hk⟩;have n0_:=Aside0.mk (KeepBut.trans (by repeat (first|(with_reducible first|exact HK.out|apply KeepBut.set_|apply keep_drewN|apply keep_drew|apply keep_alloc)|exact HK.out)) hk (.inl rfl));have n1_:=Aside0.mk (hb);have n2_:=Aside0.mk (hi);clear HK;clear HB;clear HI0;have HK:=n0_;have HB:=n1_;have HI0:=n2_;clear n0_ n1_ n2_;obtain ⟨HGz15,hgz15⟩:=HI0.out;have hcz15_0:=cellS126_0 HGz15;have hcz15_1:=cellS126_1 HGz15;have hcz15_2:=cellS126_2 HGz15;have hfz15_0:=blk_frozen HGz15 0;have hfz15_1:=blk_frozen HGz15 1;have hfz15_2:=blk_frozen HGz15 2;clear HGz15 hgz15;have p13:0≤((ji10):Int):=of_decide_eq_true (by assumption);have q13:(ji10) < (t115.size:Int):=of_decide_eq_true (by assumption);have hx13:=bt_at t115 (ji10);replace p13:=eq_true p13;replace q13:=eq_true q13)))
     go_ret
     exact ⟨by first|rfl|(simp [errW_none]<;>rfl)|(simp only [← hji10];first|rfl|(simp [errW_none]<;>rfl))|(simp [*]<;>rfl),by repeat (first|(with_reducible first|exact HI0.out|apply IsS126.alloc|apply IsS126.drewN|apply IsS126.drew|apply IsS126.set_0|apply IsS126.set_1|apply IsS126.set_2)|exact HI0.out),by repeat (first|(with_reducible first|exact HB.out|apply below_alloc|apply pw_below_drewN|apply below_drew1|refine below_set ?_ (IsS126.ge HI0.out))|exact HB.out),by repeat (first|(with_reducible first|exact HK.out|apply KeepBut.set_|apply keep_drewN|apply keep_drew|apply keep_alloc)|exact HK.out)⟩
    ·rw [if_neg c12] at H
     exact absurd H (by simp)
   ·rw [if_neg c11] at H
    exact absurd H (by simp)
end Go.Proofs.YthejnffhfmdpnaaDoor.Q

end

section
namespace Go.Proofs.YthejnffhfmdpnaaDoor.Q
open Go.RowKit Go.Proofs.YthejnffhfmdpnaaDoorW.PrintWords Go.Proofs.YthejnffhfmdpnaaDoorW.PrintLast Go.Proofs.YthejnffhfmdpnaaDoorW.PrintMore
attribute [local go_sem] min2_int min_two
set_option linter.unusedVariables false
set_option linter.unusedSimpArgs false
mutual
def code_Reader_Num.l0:Nat→Int→Int→ByteArray→Int→Int→Option (Int × ByteArray × Int × Int)
 |0,_,_,_,_,_=>none
 |k+1,x3,x4,x1000,x1001,x1002=>(code_Reader_Byte.f x1000 x1001 x1002).bind fun bt121=>((code_Reader_off.f bt121.2.1 bt121.2.2.1 bt121.2.2.2).bind fun bt125=>(if bt125.1=true then (some (0,bt125.2.1,bt125.2.2.1,bt125.2.2.2)) else (if x4=8 then (code_Reader_Num.j1 k x3 x4 bt121.1 (decide (bt121.1 > 63)) bt125.2.1 bt125.2.2.1 bt125.2.2.2) else (code_Reader_Num.j1 k x3 x4 bt121.1 false bt125.2.1 bt125.2.2.1 bt125.2.2.2))))
def code_Reader_Num.j1:Nat→Int→Int→Int→Bool→ByteArray→Int→Int→Option (Int × ByteArray × Int × Int)
 |0,_,_,_,_,_,_,_=>none
 |k+1,x3,x4,x5,x13,x1000,x1001,x1002=>if x13=true then (code_Reader_Num.j2 k x3 x4 x5 x13 x1000 x1001 x1002) else (if x4 > 0 then (code_Reader_Num.j2 k x3 x4 x5 (x5 == 0) x1000 x1001 x1002) else (code_Reader_Num.j2 k x3 x4 x5 false x1000 x1001 x1002))
def code_Reader_Num.j2:Nat→Int→Int→Int→Bool→ByteArray→Int→Int→Option (Int × ByteArray × Int × Int)
 |0,_,_,_,_,_,_,_=>none
 |k+1,x3,x4,x5,x13,x1000,x1001,x1002=>if x13=true then ((code_Reader_fail.f x1000 x1001 x1002 5).bind fun bt129=>(some (0,bt129.1,bt129.2.1,bt129.2.2))) else (if 0≤(wrap64 (7*x4)) then (if x5 < 128 then (some (Go.bits .or .i64 x3 (shl .i64 (Go.bits .and .i64 x5 127) (wrap64 (7*x4))),x1000,x1001,x1002)) else (code_Reader_Num.l0 k (Go.bits .or .i64 x3 (shl .i64 (Go.bits .and .i64 x5 127) (wrap64 (7*x4)))) (wrap64 (x4+1)) x1000 x1001 x1002)) else (none))
end
def code_Reader_Num.f (k:Nat) (s0_0:ByteArray) (s0_1:Int) (s0_2:Int):Option (Int × ByteArray × Int × Int):=code_Reader_Num.l0 k 0 0 s0_0 s0_1 s0_2
set_option maxHeartbeats 8000000 in
set_option maxRecDepth 100000 in
theorem code_Reader_Num.calls (k:Nat) (g:Nat) (s0_0:ByteArray) (s0_1:Int) (s0_2:Int) (r1:Int) (r2:ByteArray) (r3:Int) (r4:Int) (w0 w:World) (hI:IsS126 w0 w g s0_0 s0_1 s0_2) (hB:Below w0.heap.size w0 w) (h:code_Reader_Num.f k s0_0 s0_1 s0_2=some (r1,r2,r3,r4)):
  Calls Tryd.prog 77 #[.pointer (some ⟨g,0,none⟩)] w fun e w'=>e= .returned (.int .i64 r1)∧IsS126 w0 w' g r2 r3 r4∧Below w0.heap.size w0 w'∧KeepBut w w' g none:=by
 have HI0:=Aside0.mk hI
 have HK:=Aside0.mk (KeepBut.refl w g none)
 have HL:=Aside0.mk hB.size
 clear hI
 have HW0:=Aside0.mk hB.size
 have HB:=Aside0.mk hB
 clear hB
 have H:(code_Reader_Num.l0 k 0 0 s0_0 s0_1 s0_2)=some (r1,r2,r3,r4):=h
 clear h
 have H':=Aside0.mk H
 clear H
 go_enter Tryd.func77,Tryd.ntmps77
 go_wp2
 go_loopg [3,4] k (fun kq v3 v4 w'=> ∃(x3_1:Int) (x4_1:Int) (x1000_1:ByteArray) (x1001_1:Int) (x1002_1:Int),v3= .int .i64 x3_1∧v4= .int .i64 x4_1∧Aside0 (code_Reader_Num.l0 kq x3_1 x4_1 x1000_1 x1001_1 x1002_1=some (r1,r2,r3,r4))∧Aside0 (kq≤k)∧Aside0 (IsS126 w0 w' g x1000_1 x1001_1 x1002_1)∧Aside0 (KeepBut w w' g none)∧Aside0 (Below w0.heap.size w0 w'))
 case atStart=>exact ⟨(0),(0),(s0_0),(s0_1),(s0_2),(by first|rfl|(simp;done)|(simp [*];done)),(by first|rfl|(simp;done)|(simp [*];done)),H',⟨Nat.le_refl _⟩,⟨by repeat (first|(with_reducible first|exact HI0.out|apply IsS126.alloc|apply IsS126.drewN|apply IsS126.drew|apply IsS126.set_0|apply IsS126.set_1|apply IsS126.set_2)|exact HI0.out)⟩,⟨by repeat (first|(with_reducible first|exact HK.out|apply KeepBut.set_|apply keep_drewN|apply keep_drew|apply keep_alloc)|exact HK.out)⟩,⟨by repeat (first|(with_reducible first|exact HB.out|apply below_alloc|apply pw_below_drewN|apply below_drew1|refine below_set ?_ (IsS126.ge HI0.out))|exact HB.out)⟩⟩
 case round=>
  clear H'
  obtain ⟨x3_1,x4_1,x1000_1,x1001_1,x1002_1,rfl,rfl,HA,HK1,HI0,HK,HB⟩:=hrel
  cases gk with
  |zero=>exact absurd HA.out (by simp [code_Reader_Num.l0])
  |succ k1=>
   have H:=HA.out
   clear HA
   simp only [code_Reader_Num.l0] at H
   replace H:=Option.bind_eq_some_iff.mp H
   obtain ⟨⟨t121,t122,t123,t124⟩,A20,H⟩:=H
   replace H:((code_Reader_off.f t122 t123 t124).bind fun bt125=>(if bt125.1=true then (some (0,bt125.2.1,bt125.2.2.1,bt125.2.2.2)) else (if x4_1=8 then (code_Reader_Num.j1 k1 x3_1 x4_1 t121 (decide (t121 > 63)) bt125.2.1 bt125.2.2.1 bt125.2.2.2) else (code_Reader_Num.j1 k1 x3_1 x4_1 t121 false bt125.2.1 bt125.2.2.1 bt125.2.2.2))))=some (r1,r2,r3,r4):=H
   have A2:=Aside0.mk A20
   clear A20
   replace H:=Option.bind_eq_some_iff.mp H
   obtain ⟨⟨t125,t126,t127,t128⟩,A30,H⟩:=H
   replace H:(if t125=true then (some (0,t126,t127,t128)) else (if x4_1=8 then (code_Reader_Num.j1 k1 x3_1 x4_1 t121 (decide (t121 > 63)) t126 t127 t128) else (code_Reader_Num.j1 k1 x3_1 x4_1 t121 false t126 t127 t128)))=some (r1,r2,r3,r4):=H
   have A3:=Aside0.mk A30
   clear A30
   by_cases c4:t125=true
   ·subst c4
    have H1:(some (0,t126,t127,t128))=some (r1,r2,r3,r4):=by rw [if_pos rfl] at H;exact H
    clear H
    have H:=H1
    clear H1
    simp only [Option.some.injEq,Prod.mk.injEq] at H
    obtain ⟨rfl,rfl,rfl,rfl⟩:=H
    go_wp2_with (first|((with_reducible refine gate_callee (f:=89) rfl ?_);refine goesL_ (some 9) rfl rfl Tryd.func89 (by kernel_rfl) rfl #[.pointer (some ⟨g,0,none⟩)] rfl (by (try simp only [List.map_toArray,List.map_cons,List.map_nil]);try rfl) ?_;(with_reducible refine (code_Reader_Byte.calls g x1000_1 x1001_1 x1002_1 t121 t122 t123 t124 w0 _ ?side1 ?side2 A2.out).mono ?_);(case side1=>repeat (first|(with_reducible first|exact HI0.out|apply IsS126.alloc|apply IsS126.drewN|apply IsS126.drew|apply IsS126.set_0|apply IsS126.set_1|apply IsS126.set_2)|exact HI0.out));(case side2=>repeat (first|(with_reducible first|exact HB.out|apply below_alloc|apply pw_below_drewN|apply below_drew1|refine below_set ?_ (IsS126.ge HI0.out))|exact HB.out));rintro e w5 ⟨rfl,hi,hb,hk⟩;refine ⟨_,rfl,?_⟩;have n0_:=Aside0.mk (KeepBut.trans (by repeat (first|(with_reducible first|exact HK.out|apply KeepBut.set_|apply keep_drewN|apply keep_drew|apply keep_alloc)|exact HK.out)) hk (.inl rfl));have n1_:=Aside0.mk (hb);have n2_:=Aside0.mk (hi);clear HK;clear HB;clear HI0;have HK:=n0_;have HB:=n1_;have HI0:=n2_;clear n0_ n1_ n2_)|((with_reducible refine gate_callee (f:=86) rfl ?_);refine goesL_ (some 12) rfl rfl Tryd.func86 (by kernel_rfl) rfl #[.pointer (some ⟨g,0,none⟩)] rfl (by (try simp only [List.map_toArray,List.map_cons,List.map_nil]);try rfl) ?_;(with_reducible refine (code_Reader_off.calls g t122 t123 t124 true t126 t127 t128 w0 _ ?side1 ?side2 A3.out).mono ?_);(case side1=>repeat (first|(with_reducible first|exact HI0.out|apply IsS126.alloc|apply IsS126.drewN|apply IsS126.drew|apply IsS126.set_0|apply IsS126.set_1|apply IsS126.set_2)|exact HI0.out));(case side2=>repeat (first|(with_reducible first|exact HB.out|apply below_alloc|apply pw_below_drewN|apply below_drew1|refine below_set ?_ (IsS126.ge HI0.out))|exact HB.out));rintro e w6 ⟨rfl,hi,hb,hk⟩;refine ⟨_,rfl,?_⟩;have n0_:=Aside0.mk (KeepBut.trans (by repeat (first|(with_reducible first|exact HK.out|apply KeepBut.set_|apply keep_drewN|apply keep_drew|apply keep_alloc)|exact HK.out)) hk (.inl rfl));have n1_:=Aside0.mk (hb);have n2_:=Aside0.mk (hi);clear HK;clear HB;clear HI0;have HK:=n0_;have HB:=n1_;have HI0:=n2_;clear n0_ n1_ n2_))
    go_ret
    exact ⟨by first|rfl|(simp [errW_none]<;>rfl)|(simp [*]<;>rfl),by repeat (first|(with_reducible first|exact HI0.out|apply IsS126.alloc|apply IsS126.drewN|apply IsS126.drew|apply IsS126.set_0|apply IsS126.set_1|apply IsS126.set_2)|exact HI0.out),by repeat (first|(with_reducible first|exact HB.out|apply below_alloc|apply pw_below_drewN|apply below_drew1|refine below_set ?_ (IsS126.ge HI0.out))|exact HB.out),by repeat (first|(with_reducible first|exact HK.out|apply KeepBut.set_|apply keep_drewN|apply keep_drew|apply keep_alloc)|exact HK.out)⟩
   ·replace c4:=Bool.eq_false_iff.mpr c4
    subst c4
    have H1:(if x4_1=8 then (code_Reader_Num.j1 k1 x3_1 x4_1 t121 (decide (t121 > 63)) t126 t127 t128) else (code_Reader_Num.j1 k1 x3_1 x4_1 t121 false t126 t127 t128))=some (r1,r2,r3,r4):=by rw [if_neg (show ¬(false=true) by decide)] at H;exact H
    clear H
    have H:=H1
    clear H1
    have HC7:=Aside0.mk H
    clear H
    go_upto_region 7 with (first|((with_reducible refine gate_callee (f:=89) rfl ?_);refine goesL_ (some 9) rfl rfl Tryd.func89 (by kernel_rfl) rfl #[.pointer (some ⟨g,0,none⟩)] rfl (by (try simp only [List.map_toArray,List.map_cons,List.map_nil]);try rfl) ?_;(with_reducible refine (code_Reader_Byte.calls g x1000_1 x1001_1 x1002_1 t121 t122 t123 t124 w0 _ ?side1 ?side2 A2.out).mono ?_);(case side1=>repeat (first|(with_reducible first|exact HI0.out|apply IsS126.alloc|apply IsS126.drewN|apply IsS126.drew|apply IsS126.set_0|apply IsS126.set_1|apply IsS126.set_2)|exact HI0.out));(case side2=>repeat (first|(with_reducible first|exact HB.out|apply below_alloc|apply pw_below_drewN|apply below_drew1|refine below_set ?_ (IsS126.ge HI0.out))|exact HB.out));rintro e w8 ⟨rfl,hi,hb,hk⟩;refine ⟨_,rfl,?_⟩;have n0_:=Aside0.mk (KeepBut.trans (by repeat (first|(with_reducible first|exact HK.out|apply KeepBut.set_|apply keep_drewN|apply keep_drew|apply keep_alloc)|exact HK.out)) hk (.inl rfl));have n1_:=Aside0.mk (hb);have n2_:=Aside0.mk (hi);clear HK;clear HB;clear HI0;have HK:=n0_;have HB:=n1_;have HI0:=n2_;clear n0_ n1_ n2_)|((with_reducible refine gate_callee (f:=86) rfl ?_);refine goesL_ (some 12) rfl rfl Tryd.func86 (by kernel_rfl) rfl #[.pointer (some ⟨g,0,none⟩)] rfl (by (try simp only [List.map_toArray,List.map_cons,List.map_nil]);try rfl) ?_;(with_reducible refine (code_Reader_off.calls g t122 t123 t124 false t126 t127 t128 w0 _ ?side1 ?side2 A3.out).mono ?_);(case side1=>repeat (first|(with_reducible first|exact HI0.out|apply IsS126.alloc|apply IsS126.drewN|apply IsS126.drew|apply IsS126.set_0|apply IsS126.set_1|apply IsS126.set_2)|exact HI0.out));(case side2=>repeat (first|(with_reducible first|exact HB.out|apply below_alloc|apply pw_below_drewN|apply below_drew1|refine below_set ?_ (IsS126.ge HI0.out))|exact HB.out));rintro e w9 ⟨rfl,hi,hb,hk⟩;refine ⟨_,rfl,?_⟩;have n0_:=Aside0.mk (KeepBut.trans (by repeat (first|(with_reducible first|exact HK.out|apply KeepBut.set_|apply keep_drewN|apply keep_drew|apply keep_alloc)|exact HK.out)) hk (.inl rfl));have n1_:=Aside0.mk (hb);have n2_:=Aside0.mk (hi);clear HK;clear HB;clear HI0;have HK:=n0_;have HB:=n1_;have HI0:=n2_;clear n0_ n1_ n2_))
    (try simp only [Act.put,List.setIfInBounds_toArray,List.set_cons_zero,List.set_cons_succ])
    go_cut [13] (fun v13 wc=> ∃(kq:Nat) (x13_6:Bool),v13= .bool x13_6∧Aside0 (code_Reader_Num.j1 kq x3_1 x4_1 t121 x13_6 t126 t127 t128=some (r1,r2,r3,r4))∧Aside0 (kq≤k1)∧Aside0 (IsS126 w0 wc g t126 t127 t128)∧Aside0 (KeepBut w wc g none)∧Aside0 (Below w0.heap.size w0 wc))
    case first=>
     have H:=HC7.out
     clear HC7
     by_cases c10:x4_1=8
     ·rw [if_pos c10] at H
      have c10b0:(x4_1 == 8)=true:=beq_iff_eq.mpr c10
      have c10b1:(x4_1 != 8)=false:=bne_eq_false_iff_eq.mpr c10
      clear c10
      (first|rw [c10b0]|(simp only [i64_w];rw [c10b0])|skip)
      have H':=Aside0.mk H
      clear H
      go_wp2
      go_meet
      case rel=>exact ⟨_,(decide (t121 > 63)),(by first|rfl|(simp;done)|(simp [*];done)),H',⟨by have:=HK1.out;first|omega|exact Nat.le_refl _⟩,⟨by repeat (first|(with_reducible first|exact HI0.out|apply IsS126.alloc|apply IsS126.drewN|apply IsS126.drew|apply IsS126.set_0|apply IsS126.set_1|apply IsS126.set_2)|exact HI0.out)⟩,⟨by repeat (first|(with_reducible first|exact HK.out|apply KeepBut.set_|apply keep_drewN|apply keep_drew|apply keep_alloc)|exact HK.out)⟩,⟨by repeat (first|(with_reducible first|exact HB.out|apply below_alloc|apply pw_below_drewN|apply below_drew1|refine below_set ?_ (IsS126.ge HI0.out))|exact HB.out)⟩⟩
     ·rw [if_neg c10] at H
      have c10b0:(x4_1 == 8)=false:=beq_eq_false_iff_ne.mpr c10
      have c10b1:(x4_1 != 8)=true:=bne_iff_ne.mpr c10
      (first|rw [c10b0]|(simp only [i64_w];rw [c10b0])|skip)
      have H':=Aside0.mk H
      clear H
      go_wp2
      go_meet
      case rel=>exact ⟨_,(false),(by first|rfl|(simp;done)|(simp [*];done)),H',⟨by have:=HK1.out;first|omega|exact Nat.le_refl _⟩,⟨by repeat (first|(with_reducible first|exact HI0.out|apply IsS126.alloc|apply IsS126.drewN|apply IsS126.drew|apply IsS126.set_0|apply IsS126.set_1|apply IsS126.set_2)|exact HI0.out)⟩,⟨by repeat (first|(with_reducible first|exact HK.out|apply KeepBut.set_|apply keep_drewN|apply keep_drew|apply keep_alloc)|exact HK.out)⟩,⟨by repeat (first|(with_reducible first|exact HB.out|apply below_alloc|apply pw_below_drewN|apply below_drew1|refine below_set ?_ (IsS126.ge HI0.out))|exact HB.out)⟩⟩
    case rest=>
     clear HC7
     obtain ⟨kq,x13_6,rfl,HA,HJ6,HI0,HK,HB⟩:=hcut
     cases kq with
     |zero=>exact absurd HA.out (by simp [code_Reader_Num.j1])
     |succ kj6=>
      have H:=HA.out
      clear HA
      simp only [code_Reader_Num.j1] at H
      have HC11:=Aside0.mk H
      clear H
      go_upto_if 13 with (fail)
      go_cut [13] (fun v13 wc=> ∃(kq:Nat) (x13_10:Bool),v13= .bool x13_10∧Aside0 (code_Reader_Num.j2 kq x3_1 x4_1 t121 x13_10 t126 t127 t128=some (r1,r2,r3,r4))∧Aside0 (kq≤kj6)∧Aside0 (IsS126 w0 wc g t126 t127 t128)∧Aside0 (KeepBut w wc g none)∧Aside0 (Below w0.heap.size w0 wc))
      case first=>
       have H:=HC11.out
       clear HC11
       by_cases c12:x13_6=true
       ·subst c12
        have H1:(code_Reader_Num.j2 kj6 x3_1 x4_1 t121 true t126 t127 t128)=some (r1,r2,r3,r4):=by rw [if_pos rfl] at H;exact H
        clear H
        have H:=H1
        clear H1
        have H':=Aside0.mk H
        clear H
        go_wp2
        go_meet
        case rel=>exact ⟨_,(true),(by first|rfl|(simp;done)|(simp [*];done)),H',⟨by have:=HK1.out;have:=HJ6.out;first|omega|exact Nat.le_refl _⟩,⟨by repeat (first|(with_reducible first|exact HI0.out|apply IsS126.alloc|apply IsS126.drewN|apply IsS126.drew|apply IsS126.set_0|apply IsS126.set_1|apply IsS126.set_2)|exact HI0.out)⟩,⟨by repeat (first|(with_reducible first|exact HK.out|apply KeepBut.set_|apply keep_drewN|apply keep_drew|apply keep_alloc)|exact HK.out)⟩,⟨by repeat (first|(with_reducible first|exact HB.out|apply below_alloc|apply pw_below_drewN|apply below_drew1|refine below_set ?_ (IsS126.ge HI0.out))|exact HB.out)⟩⟩
       ·replace c12:=Bool.eq_false_iff.mpr c12
        subst c12
        have H1:(if x4_1 > 0 then (code_Reader_Num.j2 kj6 x3_1 x4_1 t121 (t121 == 0) t126 t127 t128) else (code_Reader_Num.j2 kj6 x3_1 x4_1 t121 false t126 t127 t128))=some (r1,r2,r3,r4):=by rw [if_neg (show ¬(false=true) by decide)] at H;exact H
        clear H
        have H:=H1
        clear H1
        by_cases c13:x4_1 > 0
        ·rw [if_pos c13] at H
         have c13b0:decide (0 < x4_1)=true:=decide_eq_true c13
         clear c13
         (first|rw [c13b0]|(simp only [i64_w];rw [c13b0])|skip)
         have H':=Aside0.mk H
         clear H
         go_wp2
         go_meet
         case rel=>exact ⟨_,((t121 == 0)),(by first|rfl|(simp;done)|(simp [*];done)),H',⟨by have:=HK1.out;have:=HJ6.out;first|omega|exact Nat.le_refl _⟩,⟨by repeat (first|(with_reducible first|exact HI0.out|apply IsS126.alloc|apply IsS126.drewN|apply IsS126.drew|apply IsS126.set_0|apply IsS126.set_1|apply IsS126.set_2)|exact HI0.out)⟩,⟨by repeat (first|(with_reducible first|exact HK.out|apply KeepBut.set_|apply keep_drewN|apply keep_drew|apply keep_alloc)|exact HK.out)⟩,⟨by repeat (first|(with_reducible first|exact HB.out|apply below_alloc|apply pw_below_drewN|apply below_drew1|refine below_set ?_ (IsS126.ge HI0.out))|exact HB.out)⟩⟩
        ·rw [if_neg c13] at H
         have c13b0:decide (0 < x4_1)=false:=decide_eq_false c13
         clear c13
         (first|rw [c13b0]|(simp only [i64_w];rw [c13b0])|skip)
         have H':=Aside0.mk H
         clear H
         go_wp2
         go_meet
         case rel=>exact ⟨_,(false),(by first|rfl|(simp;done)|(simp [*];done)),H',⟨by have:=HK1.out;have:=HJ6.out;first|omega|exact Nat.le_refl _⟩,⟨by repeat (first|(with_reducible first|exact HI0.out|apply IsS126.alloc|apply IsS126.drewN|apply IsS126.drew|apply IsS126.set_0|apply IsS126.set_1|apply IsS126.set_2)|exact HI0.out)⟩,⟨by repeat (first|(with_reducible first|exact HK.out|apply KeepBut.set_|apply keep_drewN|apply keep_drew|apply keep_alloc)|exact HK.out)⟩,⟨by repeat (first|(with_reducible first|exact HB.out|apply below_alloc|apply pw_below_drewN|apply below_drew1|refine below_set ?_ (IsS126.ge HI0.out))|exact HB.out)⟩⟩
      case rest=>
       clear HC11
       obtain ⟨kq,x13_10,rfl,HA,HJ10,HI0,HK,HB⟩:=hcut
       cases kq with
       |zero=>exact absurd HA.out (by simp [code_Reader_Num.j2])
       |succ kj10=>
        have H:=HA.out
        clear HA
        simp only [code_Reader_Num.j2] at H
        by_cases c14:x13_10=true
        ·subst c14
         have H1:((code_Reader_fail.f t126 t127 t128 5).bind fun bt129=>(some (0,bt129.1,bt129.2.1,bt129.2.2)))=some (r1,r2,r3,r4):=by rw [if_pos rfl] at H;exact H
         clear H
         have H:=H1
         clear H1
         replace H:=Option.bind_eq_some_iff.mp H
         obtain ⟨⟨t129,t130,t131⟩,A150,H⟩:=H
         replace H:(some (0,t129,t130,t131))=some (r1,r2,r3,r4):=H
         have A15:=Aside0.mk A150
         clear A150
         simp only [Option.some.injEq,Prod.mk.injEq] at H
         obtain ⟨rfl,rfl,rfl,rfl⟩:=H
         go_wp2_with (first|((with_reducible refine gate_callee (f:=87) rfl ?_);refine goesL_ (some 27) rfl rfl Tryd.func87 (by kernel_rfl) rfl #[.pointer (some ⟨g,0,none⟩), .int .i64 5] rfl (by (try simp only [List.map_toArray,List.map_cons,List.map_nil]);try rfl) ?_;(with_reducible refine (code_Reader_fail.calls g t126 t127 t128 5 t129 t130 t131 w0 _ ?side1 ?side2 A15.out).mono ?_);(case side1=>repeat (first|(with_reducible first|exact HI0.out|apply IsS126.alloc|apply IsS126.drewN|apply IsS126.drew|apply IsS126.set_0|apply IsS126.set_1|apply IsS126.set_2)|exact HI0.out));(case side2=>repeat (first|(with_reducible first|exact HB.out|apply below_alloc|apply pw_below_drewN|apply below_drew1|refine below_set ?_ (IsS126.ge HI0.out))|exact HB.out));rintro e w16 ⟨rfl,hi,hb,hk⟩;refine ⟨_,rfl,?_⟩;have n0_:=Aside0.mk (KeepBut.trans (by repeat (first|(with_reducible first|exact HK.out|apply KeepBut.set_|apply keep_drewN|apply keep_drew|apply keep_alloc)|exact HK.out)) hk (.inl rfl));have n1_:=Aside0.mk (hb);have n2_:=Aside0.mk (hi);clear HK;clear HB;clear HI0;have HK:=n0_;have HB:=n1_;have HI0:=n2_;clear n0_ n1_ n2_))
         go_ret
         exact ⟨by first|rfl|(simp [errW_none]<;>rfl)|(simp [*]<;>rfl),by repeat (first|(with_reducible first|exact HI0.out|apply IsS126.alloc|apply IsS126.drewN|apply IsS126.drew|apply IsS126.set_0|apply IsS126.set_1|apply IsS126.set_2)|exact HI0.out),by repeat (first|(with_reducible first|exact HB.out|apply below_alloc|apply pw_below_drewN|apply below_drew1|refine below_set ?_ (IsS126.ge HI0.out))|exact HB.out),by repeat (first|(with_reducible first|exact HK.out|apply KeepBut.set_|apply keep_drewN|apply keep_drew|apply keep_alloc)|exact HK.out)⟩
        ·replace c14:=Bool.eq_false_iff.mpr c14
         subst c14
         have H1:(if 0≤(wrap64 (7*x4_1)) then (if t121 < 128 then (some (Go.bits .or .i64 x3_1 (shl .i64 (Go.bits .and .i64 t121 127) (wrap64 (7*x4_1))),t126,t127,t128)) else (code_Reader_Num.l0 kj10 (Go.bits .or .i64 x3_1 (shl .i64 (Go.bits .and .i64 t121 127) (wrap64 (7*x4_1)))) (wrap64 (x4_1+1)) t126 t127 t128)) else (none))=some (r1,r2,r3,r4):=by rw [if_neg (show ¬(false=true) by decide)] at H;exact H
         clear H
         have H:=H1
         clear H1
         obtain ⟨ji17,hji17⟩: ∃j_:Int,(wrap64 (7*x4_1))=j_:=⟨_,rfl⟩
         replace H:(if 0≤(ji17) then (if t121 < 128 then (some (Go.bits .or .i64 x3_1 (shl .i64 (Go.bits .and .i64 t121 127) (ji17)),t126,t127,t128)) else (code_Reader_Num.l0 kj10 (Go.bits .or .i64 x3_1 (shl .i64 (Go.bits .and .i64 t121 127) (ji17))) (wrap64 (x4_1+1)) t126 t127 t128)) else (none))=some (r1,r2,r3,r4):=by first|(rw [hji17] at H;exact H)|(simp only [hji17] at H ⊢;exact H)
         have hji17w:(IntKind.i64.wrap (7*x4_1))=ji17:=(i64_w _).trans hji17
         by_cases c18:0≤(ji17)
         ·rw [if_pos c18] at H
          have c18b0:=eq_true c18
          have c18b1:decide (0≤(ji17))=true:=decide_eq_true c18
          clear c18
          obtain ⟨ji19,hji19⟩: ∃j_:Int,(shl .i64 (Go.bits .and .i64 t121 127) (ji17))=j_:=⟨_,rfl⟩
          replace H:(if t121 < 128 then (some (Go.bits .or .i64 x3_1 (ji19),t126,t127,t128)) else (code_Reader_Num.l0 kj10 (Go.bits .or .i64 x3_1 (ji19)) (wrap64 (x4_1+1)) t126 t127 t128))=some (r1,r2,r3,r4):=by first|(rw [hji19] at H;exact H)|(simp only [hji19] at H ⊢;exact H)
          have hji19_:(IntKind.i64.wrap ((Go.bits .and .i64 t121 127)*2 ^ min (ji17).toNat 64))=ji19:=hji19
          have hji19z:(ji17)≤64→(IntKind.i64.wrap ((Go.bits .and .i64 t121 127)*2 ^ (ji17).toNat))=ji19:=shl_small hji19
          have hji19y:(wrap64 ((Go.bits .and .i64 t121 127)*2 ^ min (ji17).toNat 64))=ji19:=(i64_w _).symm.trans hji19_
          have hji19x:(ji17)≤64→(wrap64 ((Go.bits .and .i64 t121 127)*2 ^ (ji17).toNat))=ji19:=fun h_=>(i64_w _).symm.trans (hji19z h_)
          by_cases c20:t121 < 128
          ·rw [if_pos c20] at H
           have c20b0:decide (t121 < 128)=true:=decide_eq_true c20
           clear c20
           simp only [Option.some.injEq,Prod.mk.injEq] at H
           obtain ⟨rfl,rfl,rfl,rfl⟩:=H
           go_wp2
           go_ret
           exact ⟨by first|rfl|(simp [errW_none]<;>rfl)|(simp only [← hji17, ← hji19];first|rfl|(simp [errW_none]<;>rfl))|(simp [*]<;>rfl),by repeat (first|(with_reducible first|exact HI0.out|apply IsS126.alloc|apply IsS126.drewN|apply IsS126.drew|apply IsS126.set_0|apply IsS126.set_1|apply IsS126.set_2)|exact HI0.out),by repeat (first|(with_reducible first|exact HB.out|apply below_alloc|apply pw_below_drewN|apply below_drew1|refine below_set ?_ (IsS126.ge HI0.out))|exact HB.out),by repeat (first|(with_reducible first|exact HK.out|apply KeepBut.set_|apply keep_drewN|apply keep_drew|apply keep_alloc)|exact HK.out)⟩
          ·rw [if_neg c20] at H
           have c20b0:decide (t121 < 128)=false:=decide_eq_false c20
           clear c20
           have H':=Aside0.mk H
           clear H
           go_wp2
           go_roundg kj10
           case measure=>have:=HK1.out;have:=HJ6.out;have:=HJ10.out;omega
           case rel=>exact ⟨(Go.bits .or .i64 x3_1 (ji19)),(wrap64 (x4_1+1)),(t126),(t127),(t128),(by first|rfl|(simp;done)|(simp only [← hji19]<;>(first|rfl|simp))|(simp [*];done)),(by first|rfl|(simp;done)|(simp [*];done)),H',⟨by have:=HK1.out;have:=HJ6.out;have:=HJ10.out;omega⟩,⟨by repeat (first|(with_reducible first|exact HI0.out|apply IsS126.alloc|apply IsS126.drewN|apply IsS126.drew|apply IsS126.set_0|apply IsS126.set_1|apply IsS126.set_2)|exact HI0.out)⟩,⟨by repeat (first|(with_reducible first|exact HK.out|apply KeepBut.set_|apply keep_drewN|apply keep_drew|apply keep_alloc)|exact HK.out)⟩,⟨by repeat (first|(with_reducible first|exact HB.out|apply below_alloc|apply pw_below_drewN|apply below_drew1|refine below_set ?_ (IsS126.ge HI0.out))|exact HB.out)⟩⟩
         ·rw [if_neg c18] at H
          exact absurd H (by simp)
end Go.Proofs.YthejnffhfmdpnaaDoor.Q

end

section
namespace Go.Proofs.YthejnffhfmdpnaaDoor.Q
open Go.RowKit Go.Proofs.YthejnffhfmdpnaaDoorW.PrintWords Go.Proofs.YthejnffhfmdpnaaDoorW.PrintLast Go.Proofs.YthejnffhfmdpnaaDoorW.PrintMore
attribute [local go_sem] min2_int min_two
set_option linter.unusedVariables false
set_option linter.unusedSimpArgs false
def code_Reader_Count.f (k:Nat) (s0_0:ByteArray) (s0_1:Int) (s0_2:Int) (a1:Int):Option (Int × ByteArray × Int × Int):=(code_Reader_Num.f k s0_0 s0_1 s0_2).bind fun bt132=>((code_Reader_off.f bt132.2.1 bt132.2.2.1 bt132.2.2.2).bind fun bt136=>(if bt136.1=true then (some (bt132.1,bt136.2.1,bt136.2.2.1,bt136.2.2.2)) else (if bt132.1 > a1 then ((code_Reader_fail.f bt136.2.1 bt136.2.2.1 bt136.2.2.2 4).bind fun bt140=>(some (0,bt140.1,bt140.2.1,bt140.2.2))) else (some (bt132.1,bt136.2.1,bt136.2.2.1,bt136.2.2.2)))))
set_option maxHeartbeats 8000000 in
set_option maxRecDepth 100000 in
theorem code_Reader_Count.calls (k:Nat) (g:Nat) (s0_0:ByteArray) (s0_1:Int) (s0_2:Int) (a1:Int) (r1:Int) (r2:ByteArray) (r3:Int) (r4:Int) (w0 w:World) (hI:IsS126 w0 w g s0_0 s0_1 s0_2) (hB:Below w0.heap.size w0 w) (h:code_Reader_Count.f k s0_0 s0_1 s0_2 a1=some (r1,r2,r3,r4)):
  Calls Tryd.prog 75 #[.pointer (some ⟨g,0,none⟩), .int .i64 a1] w fun e w'=>e= .returned (.int .i64 r1)∧IsS126 w0 w' g r2 r3 r4∧Below w0.heap.size w0 w'∧KeepBut w w' g none:=by
 have HI0:=Aside0.mk hI
 have HK:=Aside0.mk (KeepBut.refl w g none)
 have HL:=Aside0.mk hB.size
 clear hI
 have HW0:=Aside0.mk hB.size
 have HB:=Aside0.mk hB
 clear hB
 have H:((code_Reader_Num.f k s0_0 s0_1 s0_2).bind fun bt132=>((code_Reader_off.f bt132.2.1 bt132.2.2.1 bt132.2.2.2).bind fun bt136=>(if bt136.1=true then (some (bt132.1,bt136.2.1,bt136.2.2.1,bt136.2.2.2)) else (if bt132.1 > a1 then ((code_Reader_fail.f bt136.2.1 bt136.2.2.1 bt136.2.2.2 4).bind fun bt140=>(some (0,bt140.1,bt140.2.1,bt140.2.2))) else (some (bt132.1,bt136.2.1,bt136.2.2.1,bt136.2.2.2))))))=some (r1,r2,r3,r4):=h
 clear h
 replace H:=Option.bind_eq_some_iff.mp H
 obtain ⟨⟨t132,t133,t134,t135⟩,A30,H⟩:=H
 replace H:((code_Reader_off.f t133 t134 t135).bind fun bt136=>(if bt136.1=true then (some (t132,bt136.2.1,bt136.2.2.1,bt136.2.2.2)) else (if t132 > a1 then ((code_Reader_fail.f bt136.2.1 bt136.2.2.1 bt136.2.2.2 4).bind fun bt140=>(some (0,bt140.1,bt140.2.1,bt140.2.2))) else (some (t132,bt136.2.1,bt136.2.2.1,bt136.2.2.2)))))=some (r1,r2,r3,r4):=H
 have A3:=Aside0.mk A30
 clear A30
 replace H:=Option.bind_eq_some_iff.mp H
 obtain ⟨⟨t136,t137,t138,t139⟩,A40,H⟩:=H
 replace H:(if t136=true then (some (t132,t137,t138,t139)) else (if t132 > a1 then ((code_Reader_fail.f t137 t138 t139 4).bind fun bt140=>(some (0,bt140.1,bt140.2.1,bt140.2.2))) else (some (t132,t137,t138,t139))))=some (r1,r2,r3,r4):=H
 have A4:=Aside0.mk A40
 clear A40
 by_cases c5:t136=true
 ·subst c5
  have H1:(some (t132,t137,t138,t139))=some (r1,r2,r3,r4):=by rw [if_pos rfl] at H;exact H
  clear H
  have H:=H1
  clear H1
  simp only [Option.some.injEq,Prod.mk.injEq] at H
  obtain ⟨rfl,rfl,rfl,rfl⟩:=H
  go_enter Tryd.func75,Tryd.ntmps75
  go_wp2_with (first|((with_reducible refine gate_callee (f:=77) rfl ?_);refine goesL_ (some 7) rfl rfl Tryd.func77 (by kernel_rfl) rfl #[.pointer (some ⟨g,0,none⟩)] rfl (by (try simp only [List.map_toArray,List.map_cons,List.map_nil]);try rfl) ?_;(with_reducible refine (code_Reader_Num.calls k g s0_0 s0_1 s0_2 t132 t133 t134 t135 w0 _ ?side1 ?side2 A3.out).mono ?_);(case side1=>repeat (first|(with_reducible first|exact HI0.out|apply IsS126.alloc|apply IsS126.drewN|apply IsS126.drew|apply IsS126.set_0|apply IsS126.set_1|apply IsS126.set_2)|exact HI0.out));(case side2=>repeat (first|(with_reducible first|exact HB.out|apply below_alloc|apply pw_below_drewN|apply below_drew1|refine below_set ?_ (IsS126.ge HI0.out))|exact HB.out));rintro e w6 ⟨rfl,hi,hb,hk⟩;refine ⟨_,rfl,?_⟩;have n0_:=Aside0.mk (KeepBut.trans (by repeat (first|(with_reducible first|exact HK.out|apply KeepBut.set_|apply keep_drewN|apply keep_drew|apply keep_alloc)|exact HK.out)) hk (.inl rfl));have n1_:=Aside0.mk (hb);have n2_:=Aside0.mk (hi);clear HK;clear HB;clear HI0;have HK:=n0_;have HB:=n1_;have HI0:=n2_;clear n0_ n1_ n2_)|((with_reducible refine gate_callee (f:=86) rfl ?_);refine goesL_ (some 9) rfl rfl Tryd.func86 (by kernel_rfl) rfl #[.pointer (some ⟨g,0,none⟩)] rfl (by (try simp only [List.map_toArray,List.map_cons,List.map_nil]);try rfl) ?_;(with_reducible refine (code_Reader_off.calls g t133 t134 t135 true t137 t138 t139 w0 _ ?side1 ?side2 A4.out).mono ?_);(case side1=>repeat (first|(with_reducible first|exact HI0.out|apply IsS126.alloc|apply IsS126.drewN|apply IsS126.drew|apply IsS126.set_0|apply IsS126.set_1|apply IsS126.set_2)|exact HI0.out));(case side2=>repeat (first|(with_reducible first|exact HB.out|apply below_alloc|apply pw_below_drewN|apply below_drew1|refine below_set ?_ (IsS126.ge HI0.out))|exact HB.out));rintro e w7 ⟨rfl,hi,hb,hk⟩;refine ⟨_,rfl,?_⟩;have n0_:=Aside0.mk (KeepBut.trans (by repeat (first|(with_reducible first|exact HK.out|apply KeepBut.set_|apply keep_drewN|apply keep_drew|apply keep_alloc)|exact HK.out)) hk (.inl rfl));have n1_:=Aside0.mk (hb);have n2_:=Aside0.mk (hi);clear HK;clear HB;clear HI0;have HK:=n0_;have HB:=n1_;have HI0:=n2_;clear n0_ n1_ n2_))
  go_ret
  exact ⟨by first|rfl|(simp [errW_none]<;>rfl)|(simp [*]<;>rfl),by repeat (first|(with_reducible first|exact HI0.out|apply IsS126.alloc|apply IsS126.drewN|apply IsS126.drew|apply IsS126.set_0|apply IsS126.set_1|apply IsS126.set_2)|exact HI0.out),by repeat (first|(with_reducible first|exact HB.out|apply below_alloc|apply pw_below_drewN|apply below_drew1|refine below_set ?_ (IsS126.ge HI0.out))|exact HB.out),by repeat (first|(with_reducible first|exact HK.out|apply KeepBut.set_|apply keep_drewN|apply keep_drew|apply keep_alloc)|exact HK.out)⟩
 ·replace c5:=Bool.eq_false_iff.mpr c5
  subst c5
  have H1:(if t132 > a1 then ((code_Reader_fail.f t137 t138 t139 4).bind fun bt140=>(some (0,bt140.1,bt140.2.1,bt140.2.2))) else (some (t132,t137,t138,t139)))=some (r1,r2,r3,r4):=by rw [if_neg (show ¬(false=true) by decide)] at H;exact H
  clear H
  have H:=H1
  clear H1
  by_cases c8:t132 > a1
  ·rw [if_pos c8] at H
   have c8b0:decide (a1 < t132)=true:=decide_eq_true c8
   clear c8
   replace H:=Option.bind_eq_some_iff.mp H
   obtain ⟨⟨t140,t141,t142⟩,A90,H⟩:=H
   replace H:(some (0,t140,t141,t142))=some (r1,r2,r3,r4):=H
   have A9:=Aside0.mk A90
   clear A90
   simp only [Option.some.injEq,Prod.mk.injEq] at H
   obtain ⟨rfl,rfl,rfl,rfl⟩:=H
   go_enter Tryd.func75,Tryd.ntmps75
   go_wp2_with (first|((with_reducible refine gate_callee (f:=77) rfl ?_);refine goesL_ (some 7) rfl rfl Tryd.func77 (by kernel_rfl) rfl #[.pointer (some ⟨g,0,none⟩)] rfl (by (try simp only [List.map_toArray,List.map_cons,List.map_nil]);try rfl) ?_;(with_reducible refine (code_Reader_Num.calls k g s0_0 s0_1 s0_2 t132 t133 t134 t135 w0 _ ?side1 ?side2 A3.out).mono ?_);(case side1=>repeat (first|(with_reducible first|exact HI0.out|apply IsS126.alloc|apply IsS126.drewN|apply IsS126.drew|apply IsS126.set_0|apply IsS126.set_1|apply IsS126.set_2)|exact HI0.out));(case side2=>repeat (first|(with_reducible first|exact HB.out|apply below_alloc|apply pw_below_drewN|apply below_drew1|refine below_set ?_ (IsS126.ge HI0.out))|exact HB.out));rintro e w10 ⟨rfl,hi,hb,hk⟩;refine ⟨_,rfl,?_⟩;have n0_:=Aside0.mk (KeepBut.trans (by repeat (first|(with_reducible first|exact HK.out|apply KeepBut.set_|apply keep_drewN|apply keep_drew|apply keep_alloc)|exact HK.out)) hk (.inl rfl));have n1_:=Aside0.mk (hb);have n2_:=Aside0.mk (hi);clear HK;clear HB;clear HI0;have HK:=n0_;have HB:=n1_;have HI0:=n2_;clear n0_ n1_ n2_)|((with_reducible refine gate_callee (f:=86) rfl ?_);refine goesL_ (some 9) rfl rfl Tryd.func86 (by kernel_rfl) rfl #[.pointer (some ⟨g,0,none⟩)] rfl (by (try simp only [List.map_toArray,List.map_cons,List.map_nil]);try rfl) ?_;(with_reducible refine (code_Reader_off.calls g t133 t134 t135 false t137 t138 t139 w0 _ ?side1 ?side2 A4.out).mono ?_);(case side1=>repeat (first|(with_reducible first|exact HI0.out|apply IsS126.alloc|apply IsS126.drewN|apply IsS126.drew|apply IsS126.set_0|apply IsS126.set_1|apply IsS126.set_2)|exact HI0.out));(case side2=>repeat (first|(with_reducible first|exact HB.out|apply below_alloc|apply pw_below_drewN|apply below_drew1|refine below_set ?_ (IsS126.ge HI0.out))|exact HB.out));rintro e w11 ⟨rfl,hi,hb,hk⟩;refine ⟨_,rfl,?_⟩;have n0_:=Aside0.mk (KeepBut.trans (by repeat (first|(with_reducible first|exact HK.out|apply KeepBut.set_|apply keep_drewN|apply keep_drew|apply keep_alloc)|exact HK.out)) hk (.inl rfl));have n1_:=Aside0.mk (hb);have n2_:=Aside0.mk (hi);clear HK;clear HB;clear HI0;have HK:=n0_;have HB:=n1_;have HI0:=n2_;clear n0_ n1_ n2_)|((with_reducible refine gate_callee (f:=87) rfl ?_);refine goesL_ (some 17) rfl rfl Tryd.func87 (by kernel_rfl) rfl #[.pointer (some ⟨g,0,none⟩), .int .i64 4] rfl (by (try simp only [List.map_toArray,List.map_cons,List.map_nil]);try rfl) ?_;(with_reducible refine (code_Reader_fail.calls g t137 t138 t139 4 t140 t141 t142 w0 _ ?side1 ?side2 A9.out).mono ?_);(case side1=>repeat (first|(with_reducible first|exact HI0.out|apply IsS126.alloc|apply IsS126.drewN|apply IsS126.drew|apply IsS126.set_0|apply IsS126.set_1|apply IsS126.set_2)|exact HI0.out));(case side2=>repeat (first|(with_reducible first|exact HB.out|apply below_alloc|apply pw_below_drewN|apply below_drew1|refine below_set ?_ (IsS126.ge HI0.out))|exact HB.out));rintro e w12 ⟨rfl,hi,hb,hk⟩;refine ⟨_,rfl,?_⟩;have n0_:=Aside0.mk (KeepBut.trans (by repeat (first|(with_reducible first|exact HK.out|apply KeepBut.set_|apply keep_drewN|apply keep_drew|apply keep_alloc)|exact HK.out)) hk (.inl rfl));have n1_:=Aside0.mk (hb);have n2_:=Aside0.mk (hi);clear HK;clear HB;clear HI0;have HK:=n0_;have HB:=n1_;have HI0:=n2_;clear n0_ n1_ n2_))
   go_ret
   exact ⟨by first|rfl|(simp [errW_none]<;>rfl)|(simp [*]<;>rfl),by repeat (first|(with_reducible first|exact HI0.out|apply IsS126.alloc|apply IsS126.drewN|apply IsS126.drew|apply IsS126.set_0|apply IsS126.set_1|apply IsS126.set_2)|exact HI0.out),by repeat (first|(with_reducible first|exact HB.out|apply below_alloc|apply pw_below_drewN|apply below_drew1|refine below_set ?_ (IsS126.ge HI0.out))|exact HB.out),by repeat (first|(with_reducible first|exact HK.out|apply KeepBut.set_|apply keep_drewN|apply keep_drew|apply keep_alloc)|exact HK.out)⟩
  ·rw [if_neg c8] at H
   have c8b0:decide (a1 < t132)=false:=decide_eq_false c8
   clear c8
   simp only [Option.some.injEq,Prod.mk.injEq] at H
   obtain ⟨rfl,rfl,rfl,rfl⟩:=H
   go_enter Tryd.func75,Tryd.ntmps75
   go_wp2_with (first|((with_reducible refine gate_callee (f:=77) rfl ?_);refine goesL_ (some 7) rfl rfl Tryd.func77 (by kernel_rfl) rfl #[.pointer (some ⟨g,0,none⟩)] rfl (by (try simp only [List.map_toArray,List.map_cons,List.map_nil]);try rfl) ?_;(with_reducible refine (code_Reader_Num.calls k g s0_0 s0_1 s0_2 t132 t133 t134 t135 w0 _ ?side1 ?side2 A3.out).mono ?_);(case side1=>repeat (first|(with_reducible first|exact HI0.out|apply IsS126.alloc|apply IsS126.drewN|apply IsS126.drew|apply IsS126.set_0|apply IsS126.set_1|apply IsS126.set_2)|exact HI0.out));(case side2=>repeat (first|(with_reducible first|exact HB.out|apply below_alloc|apply pw_below_drewN|apply below_drew1|refine below_set ?_ (IsS126.ge HI0.out))|exact HB.out));rintro e w13 ⟨rfl,hi,hb,hk⟩;refine ⟨_,rfl,?_⟩;have n0_:=Aside0.mk (KeepBut.trans (by repeat (first|(with_reducible first|exact HK.out|apply KeepBut.set_|apply keep_drewN|apply keep_drew|apply keep_alloc)|exact HK.out)) hk (.inl rfl));have n1_:=Aside0.mk (hb);have n2_:=Aside0.mk (hi);clear HK;clear HB;clear HI0;have HK:=n0_;have HB:=n1_;have HI0:=n2_;clear n0_ n1_ n2_)|((with_reducible refine gate_callee (f:=86) rfl ?_);refine goesL_ (some 9) rfl rfl Tryd.func86 (by kernel_rfl) rfl #[.pointer (some ⟨g,0,none⟩)] rfl (by (try simp only [List.map_toArray,List.map_cons,List.map_nil]);try rfl) ?_;(with_reducible refine (code_Reader_off.calls g t133 t134 t135 false t137 t138 t139 w0 _ ?side1 ?side2 A4.out).mono ?_);(case side1=>repeat (first|(with_reducible first|exact HI0.out|apply IsS126.alloc|apply IsS126.drewN|apply IsS126.drew|apply IsS126.set_0|apply IsS126.set_1|apply IsS126.set_2)|exact HI0.out));(case side2=>repeat (first|(with_reducible first|exact HB.out|apply below_alloc|apply pw_below_drewN|apply below_drew1|refine below_set ?_ (IsS126.ge HI0.out))|exact HB.out));rintro e w14 ⟨rfl,hi,hb,hk⟩;refine ⟨_,rfl,?_⟩;have n0_:=Aside0.mk (KeepBut.trans (by repeat (first|(with_reducible first|exact HK.out|apply KeepBut.set_|apply keep_drewN|apply keep_drew|apply keep_alloc)|exact HK.out)) hk (.inl rfl));have n1_:=Aside0.mk (hb);have n2_:=Aside0.mk (hi);clear HK;clear HB;clear HI0;have HK:=n0_;have HB:=n1_;have HI0:=n2_;clear n0_ n1_ n2_))
   go_ret
   exact ⟨by first|rfl|(simp [errW_none]<;>rfl)|(simp [*]<;>rfl),by repeat (first|(with_reducible first|exact HI0.out|apply IsS126.alloc|apply IsS126.drewN|apply IsS126.drew|apply IsS126.set_0|apply IsS126.set_1|apply IsS126.set_2)|exact HI0.out),by repeat (first|(with_reducible first|exact HB.out|apply below_alloc|apply pw_below_drewN|apply below_drew1|refine below_set ?_ (IsS126.ge HI0.out))|exact HB.out),by repeat (first|(with_reducible first|exact HK.out|apply KeepBut.set_|apply keep_drewN|apply keep_drew|apply keep_alloc)|exact HK.out)⟩
end Go.Proofs.YthejnffhfmdpnaaDoor.Q

end

section
namespace Go.Proofs.YthejnffhfmdpnaaDoor.Q
open Go.RowKit Go.Proofs.YthejnffhfmdpnaaDoorW.PrintWords Go.Proofs.YthejnffhfmdpnaaDoorW.PrintLast Go.Proofs.YthejnffhfmdpnaaDoorW.PrintMore
attribute [local go_sem] min2_int min_two
set_option linter.unusedVariables false
set_option linter.unusedSimpArgs false
def code_Reader_Left.f (s0_0:ByteArray) (s0_1:Int) (s0_2:Int):Option (Int × ByteArray × Int × Int):=some (wrap64 ((s0_0.size:Int) - s0_1),s0_0,s0_1,s0_2)
set_option maxHeartbeats 8000000 in
set_option maxRecDepth 100000 in
theorem code_Reader_Left.calls (g:Nat) (s0_0:ByteArray) (s0_1:Int) (s0_2:Int) (r1:Int) (r2:ByteArray) (r3:Int) (r4:Int) (w0 w:World) (hI:IsS126 w0 w g s0_0 s0_1 s0_2) (hB:Below w0.heap.size w0 w) (h:code_Reader_Left.f s0_0 s0_1 s0_2=some (r1,r2,r3,r4)):
  Calls Tryd.prog 79 #[.pointer (some ⟨g,0,none⟩)] w fun e w'=>e= .returned (.int .i64 r1)∧IsS126 w0 w' g r2 r3 r4∧Below w0.heap.size w0 w'∧KeepBut w w' g none:=by
 have HI0:=Aside0.mk hI
 have HK:=Aside0.mk (KeepBut.refl w g none)
 have HL:=Aside0.mk hB.size
 clear hI
 have HW0:=Aside0.mk hB.size
 have HB:=Aside0.mk hB
 clear hB
 have H:(some (wrap64 ((s0_0.size:Int) - s0_1),s0_0,s0_1,s0_2))=some (r1,r2,r3,r4):=h
 clear h
 simp only [Option.some.injEq,Prod.mk.injEq] at H
 obtain ⟨rfl,rfl,rfl,rfl⟩:=H
 obtain ⟨HGz2,hgz2⟩:=HI0.out
 have hcz2_0:=cellS126_0 HGz2
 have hcz2_1:=cellS126_1 HGz2
 have hcz2_2:=cellS126_2 HGz2
 have hfz2_0:=blk_frozen HGz2 0
 have hfz2_1:=blk_frozen HGz2 1
 have hfz2_2:=blk_frozen HGz2 2
 clear HGz2 hgz2
 go_enter Tryd.func79,Tryd.ntmps79
 go_wp2
 repeat (go_quiet (fail);try go_wp2)
 go_ret
 exact ⟨by first|rfl|(simp [errW_none]<;>rfl)|(simp [*]<;>rfl),by repeat (first|(with_reducible first|exact HI0.out|apply IsS126.alloc|apply IsS126.drewN|apply IsS126.drew|apply IsS126.set_0|apply IsS126.set_1|apply IsS126.set_2)|exact HI0.out),by repeat (first|(with_reducible first|exact HB.out|apply below_alloc|apply pw_below_drewN|apply below_drew1|refine below_set ?_ (IsS126.ge HI0.out))|exact HB.out),by repeat (first|(with_reducible first|exact HK.out|apply KeepBut.set_|apply keep_drewN|apply keep_drew|apply keep_alloc)|exact HK.out)⟩
end Go.Proofs.YthejnffhfmdpnaaDoor.Q

end

section
namespace Go.Proofs.YthejnffhfmdpnaaDoor.Q
open Go.RowKit Go.Proofs.YthejnffhfmdpnaaDoorW.PrintWords Go.Proofs.YthejnffhfmdpnaaDoorW.PrintLast Go.Proofs.YthejnffhfmdpnaaDoorW.PrintMore
attribute [local go_sem] min2_int min_two
set_option linter.unusedVariables false
set_option linter.unusedSimpArgs false
def code_Reader_Raw.f (s0_0:ByteArray) (s0_1:Int) (s0_2:Int) (a1:Int):Option (ByteArray × ByteArray × Int × Int):=(code_Reader_off.f s0_0 s0_1 s0_2).bind fun bt143=>(if bt143.1=true then (some ((⟨#[]⟩:ByteArray),bt143.2.1,bt143.2.2.1,bt143.2.2.2)) else (if a1 < 0 then ((code_Reader_fail.f bt143.2.1 bt143.2.2.1 bt143.2.2.2 1).bind fun bt147=>(some ((⟨#[]⟩:ByteArray),bt147.1,bt147.2.1,bt147.2.2))) else ((code_Reader_Left.f bt143.2.1 bt143.2.2.1 bt143.2.2.2).bind fun bt150=>(if a1 > bt150.1 then ((code_Reader_fail.f bt150.2.1 bt150.2.2.1 bt150.2.2.2 3).bind fun bt154=>(some ((⟨#[]⟩:ByteArray),bt154.1,bt154.2.1,bt154.2.2))) else (if 0≤(wrap64 ((wrap64 (bt150.2.2.1+a1)) - a1)) then (if (wrap64 ((wrap64 (bt150.2.2.1+a1)) - a1))≤(wrap64 (bt150.2.2.1+a1)) then (if (wrap64 (bt150.2.2.1+a1))≤(bt150.2.1.size:Int) then (some (bt150.2.1.extract ((wrap64 ((wrap64 (bt150.2.2.1+a1)) - a1)):Int).toNat ((wrap64 (bt150.2.2.1+a1)):Int).toNat,bt150.2.1,wrap64 (bt150.2.2.1+a1),bt150.2.2.2)) else (none)) else (none)) else (none))))))
set_option maxHeartbeats 8000000 in
set_option maxRecDepth 100000 in
theorem code_Reader_Raw.calls (g:Nat) (s0_0:ByteArray) (s0_1:Int) (s0_2:Int) (a1:Int) (r1:ByteArray) (r2:ByteArray) (r3:Int) (r4:Int) (w0 w:World) (hI:IsS126 w0 w g s0_0 s0_1 s0_2) (hB:Below w0.heap.size w0 w) (h:code_Reader_Raw.f s0_0 s0_1 s0_2 a1=some (r1,r2,r3,r4)):
  Calls Tryd.prog 88 #[.pointer (some ⟨g,0,none⟩), .int .i64 a1] w fun e w'=>e= .returned (.string r1)∧IsS126 w0 w' g r2 r3 r4∧Below w0.heap.size w0 w'∧KeepBut w w' g none:=by
 have HI0:=Aside0.mk hI
 have HK:=Aside0.mk (KeepBut.refl w g none)
 have HL:=Aside0.mk hB.size
 clear hI
 have HW0:=Aside0.mk hB.size
 have HB:=Aside0.mk hB
 clear hB
 have H:((code_Reader_off.f s0_0 s0_1 s0_2).bind fun bt143=>(if bt143.1=true then (some ((⟨#[]⟩:ByteArray),bt143.2.1,bt143.2.2.1,bt143.2.2.2)) else (if a1 < 0 then ((code_Reader_fail.f bt143.2.1 bt143.2.2.1 bt143.2.2.2 1).bind fun bt147=>(some ((⟨#[]⟩:ByteArray),bt147.1,bt147.2.1,bt147.2.2))) else ((code_Reader_Left.f bt143.2.1 bt143.2.2.1 bt143.2.2.2).bind fun bt150=>(if a1 > bt150.1 then ((code_Reader_fail.f bt150.2.1 bt150.2.2.1 bt150.2.2.2 3).bind fun bt154=>(some ((⟨#[]⟩:ByteArray),bt154.1,bt154.2.1,bt154.2.2))) else (if 0≤(wrap64 ((wrap64 (bt150.2.2.1+a1)) - a1)) then (if (wrap64 ((wrap64 (bt150.2.2.1+a1)) - a1))≤(wrap64 (bt150.2.2.1+a1)) then (if (wrap64 (bt150.2.2.1+a1))≤(bt150.2.1.size:Int) then (some (bt150.2.1.extract ((wrap64 ((wrap64 (bt150.2.2.1+a1)) - a1)):Int).toNat ((wrap64 (bt150.2.2.1+a1)):Int).toNat,bt150.2.1,wrap64 (bt150.2.2.1+a1),bt150.2.2.2)) else (none)) else (none)) else (none)))))))=some (r1,r2,r3,r4):=h
 clear h
 replace H:=Option.bind_eq_some_iff.mp H
 obtain ⟨⟨t143,t144,t145,t146⟩,A30,H⟩:=H
 replace H:(if t143=true then (some ((⟨#[]⟩:ByteArray),t144,t145,t146)) else (if a1 < 0 then ((code_Reader_fail.f t144 t145 t146 1).bind fun bt147=>(some ((⟨#[]⟩:ByteArray),bt147.1,bt147.2.1,bt147.2.2))) else ((code_Reader_Left.f t144 t145 t146).bind fun bt150=>(if a1 > bt150.1 then ((code_Reader_fail.f bt150.2.1 bt150.2.2.1 bt150.2.2.2 3).bind fun bt154=>(some ((⟨#[]⟩:ByteArray),bt154.1,bt154.2.1,bt154.2.2))) else (if 0≤(wrap64 ((wrap64 (bt150.2.2.1+a1)) - a1)) then (if (wrap64 ((wrap64 (bt150.2.2.1+a1)) - a1))≤(wrap64 (bt150.2.2.1+a1)) then (if (wrap64 (bt150.2.2.1+a1))≤(bt150.2.1.size:Int) then (some (bt150.2.1.extract ((wrap64 ((wrap64 (bt150.2.2.1+a1)) - a1)):Int).toNat ((wrap64 (bt150.2.2.1+a1)):Int).toNat,bt150.2.1,wrap64 (bt150.2.2.1+a1),bt150.2.2.2)) else (none)) else (none)) else (none))))))=some (r1,r2,r3,r4):=H
 have A3:=Aside0.mk A30
 clear A30
 by_cases c4:t143=true
 ·subst c4
  have H1:(some ((⟨#[]⟩:ByteArray),t144,t145,t146))=some (r1,r2,r3,r4):=by rw [if_pos rfl] at H;exact H
  clear H
  have H:=H1
  clear H1
  simp only [Option.some.injEq,Prod.mk.injEq] at H
  obtain ⟨rfl,rfl,rfl,rfl⟩:=H
  go_enter Tryd.func88,Tryd.ntmps88
  go_wp2_with (first|(go_at_call 86;(with_reducible refine (code_Reader_off.calls g s0_0 s0_1 s0_2 true t144 t145 t146 w0 _ ?side1 ?side2 A3.out).mono ?_);(case side1=>repeat (first|(with_reducible first|exact HI0.out|apply IsS126.alloc|apply IsS126.drewN|apply IsS126.drew|apply IsS126.set_0|apply IsS126.set_1|apply IsS126.set_2)|exact HI0.out));(case side2=>repeat (first|(with_reducible first|exact HB.out|apply below_alloc|apply pw_below_drewN|apply below_drew1|refine below_set ?_ (IsS126.ge HI0.out))|exact HB.out));rintro e w5 ⟨rfl,hi,hb,hk⟩;have n0_:=Aside0.mk (KeepBut.trans (by repeat (first|(with_reducible first|exact HK.out|apply KeepBut.set_|apply keep_drewN|apply keep_drew|apply keep_alloc)|exact HK.out)) hk (.inl rfl));have n1_:=Aside0.mk (hb);have n2_:=Aside0.mk (hi);clear HK;clear HB;clear HI0;have HK:=n0_;have HB:=n1_;have HI0:=n2_;clear n0_ n1_ n2_))
  repeat (go_quiet (first|(go_at_call 86;(with_reducible refine (code_Reader_off.calls g s0_0 s0_1 s0_2 true t144 t145 t146 w0 _ ?side1 ?side2 A3.out).mono ?_);(case side1=>repeat (first|(with_reducible first|exact HI0.out|apply IsS126.alloc|apply IsS126.drewN|apply IsS126.drew|apply IsS126.set_0|apply IsS126.set_1|apply IsS126.set_2)|exact HI0.out));(case side2=>repeat (first|(with_reducible first|exact HB.out|apply below_alloc|apply pw_below_drewN|apply below_drew1|refine below_set ?_ (IsS126.ge HI0.out))|exact HB.out));rintro e w5 ⟨rfl,hi,hb,hk⟩;have n0_:=Aside0.mk (KeepBut.trans (by repeat (first|(with_reducible first|exact HK.out|apply KeepBut.set_|apply keep_drewN|apply keep_drew|apply keep_alloc)|exact HK.out)) hk (.inl rfl));have n1_:=Aside0.mk (hb);have n2_:=Aside0.mk (hi);clear HK;clear HB;clear HI0;have HK:=n0_;have HB:=n1_;have HI0:=n2_;clear n0_ n1_ n2_));try go_wp2_with (first|(go_at_call 86;(with_reducible refine (code_Reader_off.calls g s0_0 s0_1 s0_2 true t144 t145 t146 w0 _ ?side1 ?side2 A3.out).mono ?_);(case side1=>repeat (first|(with_reducible first|exact HI0.out|apply IsS126.alloc|apply IsS126.drewN|apply IsS126.drew|apply IsS126.set_0|apply IsS126.set_1|apply IsS126.set_2)|exact HI0.out));(case side2=>repeat (first|(with_reducible first|exact HB.out|apply below_alloc|apply pw_below_drewN|apply below_drew1|refine below_set ?_ (IsS126.ge HI0.out))|exact HB.out));rintro e w5 ⟨rfl,hi,hb,hk⟩;have n0_:=Aside0.mk (KeepBut.trans (by repeat (first|(with_reducible first|exact HK.out|apply KeepBut.set_|apply keep_drewN|apply keep_drew|apply keep_alloc)|exact HK.out)) hk (.inl rfl));have n1_:=Aside0.mk (hb);have n2_:=Aside0.mk (hi);clear HK;clear HB;clear HI0;have HK:=n0_;have HB:=n1_;have HI0:=n2_;clear n0_ n1_ n2_)))
  go_ret
  exact ⟨by first|rfl|(simp [errW_none]<;>rfl)|(simp [*]<;>rfl),by repeat (first|(with_reducible first|exact HI0.out|apply IsS126.alloc|apply IsS126.drewN|apply IsS126.drew|apply IsS126.set_0|apply IsS126.set_1|apply IsS126.set_2)|exact HI0.out),by repeat (first|(with_reducible first|exact HB.out|apply below_alloc|apply pw_below_drewN|apply below_drew1|refine below_set ?_ (IsS126.ge HI0.out))|exact HB.out),by repeat (first|(with_reducible first|exact HK.out|apply KeepBut.set_|apply keep_drewN|apply keep_drew|apply keep_alloc)|exact HK.out)⟩
 ·replace c4:=Bool.eq_false_iff.mpr c4
  subst c4
  have H1:(if a1 < 0 then ((code_Reader_fail.f t144 t145 t146 1).bind fun bt147=>(some ((⟨#[]⟩:ByteArray),bt147.1,bt147.2.1,bt147.2.2))) else ((code_Reader_Left.f t144 t145 t146).bind fun bt150=>(if a1 > bt150.1 then ((code_Reader_fail.f bt150.2.1 bt150.2.2.1 bt150.2.2.2 3).bind fun bt154=>(some ((⟨#[]⟩:ByteArray),bt154.1,bt154.2.1,bt154.2.2))) else (if 0≤(wrap64 ((wrap64 (bt150.2.2.1+a1)) - a1)) then (if (wrap64 ((wrap64 (bt150.2.2.1+a1)) - a1))≤(wrap64 (bt150.2.2.1+a1)) then (if (wrap64 (bt150.2.2.1+a1))≤(bt150.2.1.size:Int) then (some (bt150.2.1.extract ((wrap64 ((wrap64 (bt150.2.2.1+a1)) - a1)):Int).toNat ((wrap64 (bt150.2.2.1+a1)):Int).toNat,bt150.2.1,wrap64 (bt150.2.2.1+a1),bt150.2.2.2)) else (none)) else (none)) else (none)))))=some (r1,r2,r3,r4):=by rw [if_neg (show ¬(false=true) by decide)] at H;exact H
  clear H
  have H:=H1
  clear H1
  by_cases c6:a1 < 0
  ·rw [if_pos c6] at H
   have c6b0:decide (a1 < 0)=true:=decide_eq_true c6
   clear c6
   replace H:=Option.bind_eq_some_iff.mp H
   obtain ⟨⟨t147,t148,t149⟩,A70,H⟩:=H
   replace H:(some ((⟨#[]⟩:ByteArray),t147,t148,t149))=some (r1,r2,r3,r4):=H
   have A7:=Aside0.mk A70
   clear A70
   simp only [Option.some.injEq,Prod.mk.injEq] at H
   obtain ⟨rfl,rfl,rfl,rfl⟩:=H
   go_enter Tryd.func88,Tryd.ntmps88
   go_wp2_with (first|(go_at_call 86;(with_reducible refine (code_Reader_off.calls g s0_0 s0_1 s0_2 false t144 t145 t146 w0 _ ?side1 ?side2 A3.out).mono ?_);(case side1=>repeat (first|(with_reducible first|exact HI0.out|apply IsS126.alloc|apply IsS126.drewN|apply IsS126.drew|apply IsS126.set_0|apply IsS126.set_1|apply IsS126.set_2)|exact HI0.out));(case side2=>repeat (first|(with_reducible first|exact HB.out|apply below_alloc|apply pw_below_drewN|apply below_drew1|refine below_set ?_ (IsS126.ge HI0.out))|exact HB.out));rintro e w8 ⟨rfl,hi,hb,hk⟩;have n0_:=Aside0.mk (KeepBut.trans (by repeat (first|(with_reducible first|exact HK.out|apply KeepBut.set_|apply keep_drewN|apply keep_drew|apply keep_alloc)|exact HK.out)) hk (.inl rfl));have n1_:=Aside0.mk (hb);have n2_:=Aside0.mk (hi);clear HK;clear HB;clear HI0;have HK:=n0_;have HB:=n1_;have HI0:=n2_;clear n0_ n1_ n2_)|(go_at_call 87;(with_reducible refine (code_Reader_fail.calls g t144 t145 t146 1 t147 t148 t149 w0 _ ?side1 ?side2 A7.out).mono ?_);(case side1=>repeat (first|(with_reducible first|exact HI0.out|apply IsS126.alloc|apply IsS126.drewN|apply IsS126.drew|apply IsS126.set_0|apply IsS126.set_1|apply IsS126.set_2)|exact HI0.out));(case side2=>repeat (first|(with_reducible first|exact HB.out|apply below_alloc|apply pw_below_drewN|apply below_drew1|refine below_set ?_ (IsS126.ge HI0.out))|exact HB.out));rintro e w9 ⟨rfl,hi,hb,hk⟩;have n0_:=Aside0.mk (KeepBut.trans (by repeat (first|(with_reducible first|exact HK.out|apply KeepBut.set_|apply keep_drewN|apply keep_drew|apply keep_alloc)|exact HK.out)) hk (.inl rfl));have n1_:=Aside0.mk (hb);have n2_:=Aside0.mk (hi);clear HK;clear HB;clear HI0;have HK:=n0_;have HB:=n1_;have HI0:=n2_;clear n0_ n1_ n2_))
   repeat (go_quiet (first|(go_at_call 86;(with_reducible refine (code_Reader_off.calls g s0_0 s0_1 s0_2 false t144 t145 t146 w0 _ ?side1 ?side2 A3.out).mono ?_);(case side1=>repeat (first|(with_reducible first|exact HI0.out|apply IsS126.alloc|apply IsS126.drewN|apply IsS126.drew|apply IsS126.set_0|apply IsS126.set_1|apply IsS126.set_2)|exact HI0.out));(case side2=>repeat (first|(with_reducible first|exact HB.out|apply below_alloc|apply pw_below_drewN|apply below_drew1|refine below_set ?_ (IsS126.ge HI0.out))|exact HB.out));rintro e w8 ⟨rfl,hi,hb,hk⟩;have n0_:=Aside0.mk (KeepBut.trans (by repeat (first|(with_reducible first|exact HK.out|apply KeepBut.set_|apply keep_drewN|apply keep_drew|apply keep_alloc)|exact HK.out)) hk (.inl rfl));have n1_:=Aside0.mk (hb);have n2_:=Aside0.mk (hi);clear HK;clear HB;clear HI0;have HK:=n0_;have HB:=n1_;have HI0:=n2_;clear n0_ n1_ n2_)|(go_at_call 87;(with_reducible refine (code_Reader_fail.calls g t144 t145 t146 1 t147 t148 t149 w0 _ ?side1 ?side2 A7.out).mono ?_);(case side1=>repeat (first|(with_reducible first|exact HI0.out|apply IsS126.alloc|apply IsS126.drewN|apply IsS126.drew|apply IsS126.set_0|apply IsS126.set_1|apply IsS126.set_2)|exact HI0.out));(case side2=>repeat (first|(with_reducible first|exact HB.out|apply below_alloc|apply pw_below_drewN|apply below_drew1|refine below_set ?_ (IsS126.ge HI0.out))|exact HB.out));rintro e w9 ⟨rfl,hi,hb,hk⟩;have n0_:=Aside0.mk (KeepBut.trans (by repeat (first|(with_reducible first|exact HK.out|apply KeepBut.set_|apply keep_drewN|apply keep_drew|apply keep_alloc)|exact HK.out)) hk (.inl rfl));have n1_:=Aside0.mk (hb);have n2_:=Aside0.mk (hi);clear HK;clear HB;clear HI0;have HK:=n0_;have HB:=n1_;have HI0:=n2_;clear n0_ n1_ n2_));try go_wp2_with (first|(go_at_call 86;(with_reducible refine (code_Reader_off.calls g s0_0 s0_1 s0_2 false t144 t145 t146 w0 _ ?side1 ?side2 A3.out).mono ?_);(case side1=>repeat (first|(with_reducible first|exact HI0.out|apply IsS126.alloc|apply IsS126.drewN|apply IsS126.drew|apply IsS126.set_0|apply IsS126.set_1|apply IsS126.set_2)|exact HI0.out));(case side2=>repeat (first|(with_reducible first|exact HB.out|apply below_alloc|apply pw_below_drewN|apply below_drew1|refine below_set ?_ (IsS126.ge HI0.out))|exact HB.out));rintro e w8 ⟨rfl,hi,hb,hk⟩;have n0_:=Aside0.mk (KeepBut.trans (by repeat (first|(with_reducible first|exact HK.out|apply KeepBut.set_|apply keep_drewN|apply keep_drew|apply keep_alloc)|exact HK.out)) hk (.inl rfl));have n1_:=Aside0.mk (hb);have n2_:=Aside0.mk (hi);clear HK;clear HB;clear HI0;have HK:=n0_;have HB:=n1_;have HI0:=n2_;clear n0_ n1_ n2_)|(go_at_call 87;(with_reducible refine (code_Reader_fail.calls g t144 t145 t146 1 t147 t148 t149 w0 _ ?side1 ?side2 A7.out).mono ?_);(case side1=>repeat (first|(with_reducible first|exact HI0.out|apply IsS126.alloc|apply IsS126.drewN|apply IsS126.drew|apply IsS126.set_0|apply IsS126.set_1|apply IsS126.set_2)|exact HI0.out));(case side2=>repeat (first|(with_reducible first|exact HB.out|apply below_alloc|apply pw_below_drewN|apply below_drew1|refine below_set ?_ (IsS126.ge HI0.out))|exact HB.out));rintro e w9 ⟨rfl,hi,hb,hk⟩;have n0_:=Aside0.mk (KeepBut.trans (by repeat (first|(with_reducible first|exact HK.out|apply KeepBut.set_|apply keep_drewN|apply keep_drew|apply keep_alloc)|exact HK.out)) hk (.inl rfl));have n1_:=Aside0.mk (hb);have n2_:=Aside0.mk (hi);clear HK;clear HB;clear HI0;have HK:=n0_;have HB:=n1_;have HI0:=n2_;clear n0_ n1_ n2_)))
   go_ret
   exact ⟨by first|rfl|(simp [errW_none]<;>rfl)|(simp [*]<;>rfl),by repeat (first|(with_reducible first|exact HI0.out|apply IsS126.alloc|apply IsS126.drewN|apply IsS126.drew|apply IsS126.set_0|apply IsS126.set_1|apply IsS126.set_2)|exact HI0.out),by repeat (first|(with_reducible first|exact HB.out|apply below_alloc|apply pw_below_drewN|apply below_drew1|refine below_set ?_ (IsS126.ge HI0.out))|exact HB.out),by repeat (first|(with_reducible first|exact HK.out|apply KeepBut.set_|apply keep_drewN|apply keep_drew|apply keep_alloc)|exact HK.out)⟩
  ·rw [if_neg c6] at H
   have c6b0:decide (a1 < 0)=false:=decide_eq_false c6
   clear c6
   replace H:=Option.bind_eq_some_iff.mp H
   obtain ⟨⟨t150,t151,t152,t153⟩,A100,H⟩:=H
   replace H:(if a1 > t150 then ((code_Reader_fail.f t151 t152 t153 3).bind fun bt154=>(some ((⟨#[]⟩:ByteArray),bt154.1,bt154.2.1,bt154.2.2))) else (if 0≤(wrap64 ((wrap64 (t152+a1)) - a1)) then (if (wrap64 ((wrap64 (t152+a1)) - a1))≤(wrap64 (t152+a1)) then (if (wrap64 (t152+a1))≤(t151.size:Int) then (some (t151.extract ((wrap64 ((wrap64 (t152+a1)) - a1)):Int).toNat ((wrap64 (t152+a1)):Int).toNat,t151,wrap64 (t152+a1),t153)) else (none)) else (none)) else (none)))=some (r1,r2,r3,r4):=H
   have A10:=Aside0.mk A100
   clear A100
   by_cases c11:a1 > t150
   ·rw [if_pos c11] at H
    have c11b0:decide (t150 < a1)=true:=decide_eq_true c11
    clear c11
    replace H:=Option.bind_eq_some_iff.mp H
    obtain ⟨⟨t154,t155,t156⟩,A120,H⟩:=H
    replace H:(some ((⟨#[]⟩:ByteArray),t154,t155,t156))=some (r1,r2,r3,r4):=H
    have A12:=Aside0.mk A120
    clear A120
    simp only [Option.some.injEq,Prod.mk.injEq] at H
    obtain ⟨rfl,rfl,rfl,rfl⟩:=H
    go_enter Tryd.func88,Tryd.ntmps88
    go_wp2_with (first|(go_at_call 86;(with_reducible refine (code_Reader_off.calls g s0_0 s0_1 s0_2 false t144 t145 t146 w0 _ ?side1 ?side2 A3.out).mono ?_);(case side1=>repeat (first|(with_reducible first|exact HI0.out|apply IsS126.alloc|apply IsS126.drewN|apply IsS126.drew|apply IsS126.set_0|apply IsS126.set_1|apply IsS126.set_2)|exact HI0.out));(case side2=>repeat (first|(with_reducible first|exact HB.out|apply below_alloc|apply pw_below_drewN|apply below_drew1|refine below_set ?_ (IsS126.ge HI0.out))|exact HB.out));rintro e w13 ⟨rfl,hi,hb,hk⟩;have n0_:=Aside0.mk (KeepBut.trans (by repeat (first|(with_reducible first|exact HK.out|apply KeepBut.set_|apply keep_drewN|apply keep_drew|apply keep_alloc)|exact HK.out)) hk (.inl rfl));have n1_:=Aside0.mk (hb);have n2_:=Aside0.mk (hi);clear HK;clear HB;clear HI0;have HK:=n0_;have HB:=n1_;have HI0:=n2_;clear n0_ n1_ n2_)|(go_at_call 79;(with_reducible refine (code_Reader_Left.calls g t144 t145 t146 t150 t151 t152 t153 w0 _ ?side1 ?side2 A10.out).mono ?_);(case side1=>repeat (first|(with_reducible first|exact HI0.out|apply IsS126.alloc|apply IsS126.drewN|apply IsS126.drew|apply IsS126.set_0|apply IsS126.set_1|apply IsS126.set_2)|exact HI0.out));(case side2=>repeat (first|(with_reducible first|exact HB.out|apply below_alloc|apply pw_below_drewN|apply below_drew1|refine below_set ?_ (IsS126.ge HI0.out))|exact HB.out));rintro e w14 ⟨rfl,hi,hb,hk⟩;have n0_:=Aside0.mk (KeepBut.trans (by repeat (first|(with_reducible first|exact HK.out|apply KeepBut.set_|apply keep_drewN|apply keep_drew|apply keep_alloc)|exact HK.out)) hk (.inl rfl));have n1_:=Aside0.mk (hb);have n2_:=Aside0.mk (hi);clear HK;clear HB;clear HI0;have HK:=n0_;have HB:=n1_;have HI0:=n2_;clear n0_ n1_ n2_)|(go_at_call 87;(with_reducible refine (code_Reader_fail.calls g t151 t152 t153 3 t154 t155 t156 w0 _ ?side1 ?side2 A12.out).mono ?_);(case side1=>repeat (first|(with_reducible first|exact HI0.out|apply IsS126.alloc|apply IsS126.drewN|apply IsS126.drew|apply IsS126.set_0|apply IsS126.set_1|apply IsS126.set_2)|exact HI0.out));(case side2=>repeat (first|(with_reducible first|exact HB.out|apply below_alloc|apply pw_below_drewN|apply below_drew1|refine below_set ?_ (IsS126.ge HI0.out))|exact HB.out));rintro e w15 ⟨rfl,hi,hb,hk⟩;have n0_:=Aside0.mk (KeepBut.trans (by repeat (first|(with_reducible first|exact HK.out|apply KeepBut.set_|apply keep_drewN|apply keep_drew|apply keep_alloc)|exact HK.out)) hk (.inl rfl));have n1_:=Aside0.mk (hb);have n2_:=Aside0.mk (hi);clear HK;clear HB;clear HI0;have HK:=n0_;have HB:=n1_;have HI0:=n2_;clear n0_ n1_ n2_))
    repeat (go_quiet (first|(go_at_call 86;(with_reducible refine (code_Reader_off.calls g s0_0 s0_1 s0_2 false t144 t145 t146 w0 _ ?side1 ?side2 A3.out).mono ?_);(case side1=>repeat (first|(with_reducible first|exact HI0.out|apply IsS126.alloc|apply IsS126.drewN|apply IsS126.drew|apply IsS126.set_0|apply IsS126.set_1|apply IsS126.set_2)|exact HI0.out));(case side2=>repeat (first|(with_reducible first|exact HB.out|apply below_alloc|apply pw_below_drewN|apply below_drew1|refine below_set ?_ (IsS126.ge HI0.out))|exact HB.out));rintro e w13 ⟨rfl,hi,hb,hk⟩;have n0_:=Aside0.mk (KeepBut.trans (by repeat (first|(with_reducible first|exact HK.out|apply KeepBut.set_|apply keep_drewN|apply keep_drew|apply keep_alloc)|exact HK.out)) hk (.inl rfl));have n1_:=Aside0.mk (hb);have n2_:=Aside0.mk (hi);clear HK;clear HB;clear HI0;have HK:=n0_;have HB:=n1_;have HI0:=n2_;clear n0_ n1_ n2_)|(go_at_call 79;(with_reducible refine (code_Reader_Left.calls g t144 t145 t146 t150 t151 t152 t153 w0 _ ?side1 ?side2 A10.out).mono ?_);(case side1=>repeat (first|(with_reducible first|exact HI0.out|apply IsS126.alloc|apply IsS126.drewN|apply IsS126.drew|apply IsS126.set_0|apply IsS126.set_1|apply IsS126.set_2)|exact HI0.out));(case side2=>repeat (first|(with_reducible first|exact HB.out|apply below_alloc|apply pw_below_drewN|apply below_drew1|refine below_set ?_ (IsS126.ge HI0.out))|exact HB.out));rintro e w14 ⟨rfl,hi,hb,hk⟩;have n0_:=Aside0.mk (KeepBut.trans (by repeat (first|(with_reducible first|exact HK.out|apply KeepBut.set_|apply keep_drewN|apply keep_drew|apply keep_alloc)|exact HK.out)) hk (.inl rfl));have n1_:=Aside0.mk (hb);have n2_:=Aside0.mk (hi);clear HK;clear HB;clear HI0;have HK:=n0_;have HB:=n1_;have HI0:=n2_;clear n0_ n1_ n2_)|(go_at_call 87;(with_reducible refine (code_Reader_fail.calls g t151 t152 t153 3 t154 t155 t156 w0 _ ?side1 ?side2 A12.out).mono ?_);(case side1=>repeat (first|(with_reducible first|exact HI0.out|apply IsS126.alloc|apply IsS126.drewN|apply IsS126.drew|apply IsS126.set_0|apply IsS126.set_1|apply IsS126.set_2)|exact HI0.out));(case side2=>repeat (first|(with_reducible first|exact HB.out|apply below_alloc|apply pw_below_drewN|apply below_drew1|refine below_set ?_ (IsS126.ge HI0.out))|exact HB.out));rintro e w15 ⟨rfl,hi,hb,hk⟩;have n0_:=Aside0.mk (KeepBut.trans (by repeat (first|(with_reducible first|exact HK.out|apply KeepBut.set_|apply keep_drewN|apply keep_drew|apply keep_alloc)|exact HK.out)) hk (.inl rfl));have n1_:=Aside0.mk (hb);have n2_:=Aside0.mk (hi);clear HK;clear HB;clear HI0;have HK:=n0_;have HB:=n1_;have HI0:=n2_;clear n0_ n1_ n2_));try go_wp2_with (first|(go_at_call 86;(with_reducible refine (code_Reader_off.calls g s0_0 s0_1 s0_2 false t144 t145 t146 w0 _ ?side1 ?side2 A3.out).mono ?_);(case side1=>repeat (first|(with_reducible first|exact HI0.out|apply IsS126.alloc|apply IsS126.drewN|apply IsS126.drew|apply IsS126.set_0|apply IsS126.set_1|apply IsS126.set_2)|exact HI0.out));(case side2=>repeat (first|(with_reducible first|exact HB.out|apply below_alloc|apply pw_below_drewN|apply below_drew1|refine below_set ?_ (IsS126.ge HI0.out))|exact HB.out));rintro e w13 ⟨rfl,hi,hb,hk⟩;have n0_:=Aside0.mk (KeepBut.trans (by repeat (first|(with_reducible first|exact HK.out|apply KeepBut.set_|apply keep_drewN|apply keep_drew|apply keep_alloc)|exact HK.out)) hk (.inl rfl));have n1_:=Aside0.mk (hb);have n2_:=Aside0.mk (hi);clear HK;clear HB;clear HI0;have HK:=n0_;have HB:=n1_;have HI0:=n2_;clear n0_ n1_ n2_)|(go_at_call 79;(with_reducible refine (code_Reader_Left.calls g t144 t145 t146 t150 t151 t152 t153 w0 _ ?side1 ?side2 A10.out).mono ?_);(case side1=>repeat (first|(with_reducible first|exact HI0.out|apply IsS126.alloc|apply IsS126.drewN|apply IsS126.drew|apply IsS126.set_0|apply IsS126.set_1|apply IsS126.set_2)|exact HI0.out));(case side2=>repeat (first|(with_reducible first|exact HB.out|apply below_alloc|apply pw_below_drewN|apply below_drew1|refine below_set ?_ (IsS126.ge HI0.out))|exact HB.out));rintro e w14 ⟨rfl,hi,hb,hk⟩;have n0_:=Aside0.mk (KeepBut.trans (by repeat (first|(with_reducible first|exact HK.out|apply KeepBut.set_|apply keep_drewN|apply keep_drew|apply keep_alloc)|exact HK.out)) hk (.inl rfl));have n1_:=Aside0.mk (hb);have n2_:=Aside0.mk (hi);clear HK;clear HB;clear HI0;have HK:=n0_;have HB:=n1_;have HI0:=n2_;clear n0_ n1_ n2_)|(go_at_call 87;(with_reducible refine (code_Reader_fail.calls g t151 t152 t153 3 t154 t155 t156 w0 _ ?side1 ?side2 A12.out).mono ?_);(case side1=>repeat (first|(with_reducible first|exact HI0.out|apply IsS126.alloc|apply IsS126.drewN|apply IsS126.drew|apply IsS126.set_0|apply IsS126.set_1|apply IsS126.set_2)|exact HI0.out));(case side2=>repeat (first|(with_reducible first|exact HB.out|apply below_alloc|apply pw_below_drewN|apply below_drew1|refine below_set ?_ (IsS126.ge HI0.out))|exact HB.out));rintro e w15 ⟨rfl,hi,hb,hk⟩;have n0_:=Aside0.mk (KeepBut.trans (by repeat (first|(with_reducible first|exact HK.out|apply KeepBut.set_|apply keep_drewN|apply keep_drew|apply keep_alloc)|exact HK.out)) hk (.inl rfl));have n1_:=Aside0.mk (hb);have n2_:=Aside0.mk (hi);clear HK;clear HB;clear HI0;have HK:=n0_;have HB:=n1_;have HI0:=n2_;clear n0_ n1_ n2_)))
    go_ret
    exact ⟨by first|rfl|(simp [errW_none]<;>rfl)|(simp [*]<;>rfl),by repeat (first|(with_reducible first|exact HI0.out|apply IsS126.alloc|apply IsS126.drewN|apply IsS126.drew|apply IsS126.set_0|apply IsS126.set_1|apply IsS126.set_2)|exact HI0.out),by repeat (first|(with_reducible first|exact HB.out|apply below_alloc|apply pw_below_drewN|apply below_drew1|refine below_set ?_ (IsS126.ge HI0.out))|exact HB.out),by repeat (first|(with_reducible first|exact HK.out|apply KeepBut.set_|apply keep_drewN|apply keep_drew|apply keep_alloc)|exact HK.out)⟩
   ·rw [if_neg c11] at H
    have c11b0:decide (t150 < a1)=false:=decide_eq_false c11
    clear c11
    obtain ⟨ji16,hji16⟩: ∃j_:Int,(wrap64 ((wrap64 (t152+a1)) - a1))=j_:=⟨_,rfl⟩
    replace H:(if 0≤(ji16) then (if (ji16)≤(wrap64 (t152+a1)) then (if (wrap64 (t152+a1))≤(t151.size:Int) then (some (t151.extract ((ji16):Int).toNat ((wrap64 (t152+a1)):Int).toNat,t151,wrap64 (t152+a1),t153)) else (none)) else (none)) else (none))=some (r1,r2,r3,r4):=by first|(rw [hji16] at H;exact H)|(simp only [hji16] at H ⊢;exact H)
    (try rw [hji16] at A3)
    (try rw [hji16] at A10)
    have hji16w:(IntKind.i64.wrap ((wrap64 (t152+a1)) - a1))=ji16:=(i64_w _).trans hji16
    by_cases c17:0≤(ji16)
    ·rw [if_pos c17] at H
     have c17b0:=eq_true c17
     have c17b1:decide (0≤(ji16))=true:=decide_eq_true c17
     clear c17
     by_cases c18:(ji16)≤(wrap64 (t152+a1))
     ·rw [if_pos c18] at H
      have c18b0:=eq_true c18
      have c18b1:decide ((ji16)≤(wrap64 (t152+a1)))=true:=decide_eq_true c18
      by_cases c19:(wrap64 (t152+a1))≤(t151.size:Int)
      ·rw [if_pos c19] at H
       have c19b0:=eq_true c19
       have c19b1:decide ((wrap64 (t152+a1))≤(t151.size:Int))=true:=decide_eq_true c19
       simp only [Option.some.injEq,Prod.mk.injEq] at H
       obtain ⟨rfl,rfl,rfl,rfl⟩:=H
       go_enter Tryd.func88,Tryd.ntmps88
       go_wp2_with (first|(go_at_call 86;(with_reducible refine (code_Reader_off.calls g s0_0 s0_1 s0_2 false t144 t145 t146 w0 _ ?side1 ?side2 A3.out).mono ?_);(case side1=>repeat (first|(with_reducible first|exact HI0.out|apply IsS126.alloc|apply IsS126.drewN|apply IsS126.drew|apply IsS126.set_0|apply IsS126.set_1|apply IsS126.set_2)|exact HI0.out));(case side2=>repeat (first|(with_reducible first|exact HB.out|apply below_alloc|apply pw_below_drewN|apply below_drew1|refine below_set ?_ (IsS126.ge HI0.out))|exact HB.out));rintro e w20 ⟨rfl,hi,hb,hk⟩;have n0_:=Aside0.mk (KeepBut.trans (by repeat (first|(with_reducible first|exact HK.out|apply KeepBut.set_|apply keep_drewN|apply keep_drew|apply keep_alloc)|exact HK.out)) hk (.inl rfl));have n1_:=Aside0.mk (hb);have n2_:=Aside0.mk (hi);clear HK;clear HB;clear HI0;have HK:=n0_;have HB:=n1_;have HI0:=n2_;clear n0_ n1_ n2_)|(go_at_call 79;(with_reducible refine (code_Reader_Left.calls g t144 t145 t146 t150 t151 t152 t153 w0 _ ?side1 ?side2 A10.out).mono ?_);(case side1=>repeat (first|(with_reducible first|exact HI0.out|apply IsS126.alloc|apply IsS126.drewN|apply IsS126.drew|apply IsS126.set_0|apply IsS126.set_1|apply IsS126.set_2)|exact HI0.out));(case side2=>repeat (first|(with_reducible first|exact HB.out|apply below_alloc|apply pw_below_drewN|apply below_drew1|refine below_set ?_ (IsS126.ge HI0.out))|exact HB.out));rintro e w21 ⟨rfl,hi,hb,hk⟩;have n0_:=Aside0.mk (KeepBut.trans (by repeat (first|(with_reducible first|exact HK.out|apply KeepBut.set_|apply keep_drewN|apply keep_drew|apply keep_alloc)|exact HK.out)) hk (.inl rfl));have n1_:=Aside0.mk (hb);have n2_:=Aside0.mk (hi);clear HK;clear HB;clear HI0;have HK:=n0_;have HB:=n1_;have HI0:=n2_;clear n0_ n1_ n2_;obtain ⟨HGz22,hgz22⟩:=HI0.out;have hcz22_0:=cellS126_0 HGz22;have hcz22_1:=cellS126_1 HGz22;have hcz22_2:=cellS126_2 HGz22;have hfz22_0:=blk_frozen HGz22 0;have hfz22_1:=blk_frozen HGz22 1;have hfz22_2:=blk_frozen HGz22 2;clear HGz22 hgz22))
       repeat (go_quiet (first|(go_at_call 86;(with_reducible refine (code_Reader_off.calls g s0_0 s0_1 s0_2 false t144 t145 t146 w0 _ ?side1 ?side2 A3.out).mono ?_);(case side1=>repeat (first|(with_reducible first|exact HI0.out|apply IsS126.alloc|apply IsS126.drewN|apply IsS126.drew|apply IsS126.set_0|apply IsS126.set_1|apply IsS126.set_2)|exact HI0.out));(case side2=>repeat (first|(with_reducible first|exact HB.out|apply below_alloc|apply pw_below_drewN|apply below_drew1|refine below_set ?_ (IsS126.ge HI0.out))|exact HB.out));rintro e w20 ⟨rfl,hi,hb,hk⟩;have n0_:=Aside0.mk (KeepBut.trans (by repeat (first|(with_reducible first|exact HK.out|apply KeepBut.set_|apply keep_drewN|apply keep_drew|apply keep_alloc)|exact HK.out)) hk (.inl rfl));have n1_:=Aside0.mk (hb);have n2_:=Aside0.mk (hi);clear HK;clear HB;clear HI0;have HK:=n0_;have HB:=n1_;have HI0:=n2_;clear n0_ n1_ n2_)|(go_at_call 79;(with_reducible refine (code_Reader_Left.calls g t144 t145 t146 t150 t151 t152 t153 w0 _ ?side1 ?side2 A10.out).mono ?_);(case side1=>repeat (first|(with_reducible first|exact HI0.out|apply IsS126.alloc|apply IsS126.drewN|apply IsS126.drew|apply IsS126.set_0|apply IsS126.set_1|apply IsS126.set_2)|exact HI0.out));(case side2=>repeat (first|(with_reducible first|exact HB.out|apply below_alloc|apply pw_below_drewN|apply below_drew1|refine below_set ?_ (IsS126.ge HI0.out))|exact HB.out));rintro e w21 ⟨rfl,hi,hb,hk⟩;have n0_:=Aside0.mk (KeepBut.trans (by repeat (first|(with_reducible first|exact HK.out|apply KeepBut.set_|apply keep_drewN|apply keep_drew|apply keep_alloc)|exact HK.out)) hk (.inl rfl));have n1_:=Aside0.mk (hb);have n2_:=Aside0.mk (hi);clear HK;clear HB;clear HI0;have HK:=n0_;have HB:=n1_;have HI0:=n2_;clear n0_ n1_ n2_;obtain ⟨HGz22,hgz22⟩:=HI0.out;have hcz22_0:=cellS126_0 HGz22;have hcz22_1:=cellS126_1 HGz22;have hcz22_2:=cellS126_2 HGz22;have hfz22_0:=blk_frozen HGz22 0;have hfz22_1:=blk_frozen HGz22 1;have hfz22_2:=blk_frozen HGz22 2;clear HGz22 hgz22));try go_wp2_with (first|(go_at_call 86;(with_reducible refine (code_Reader_off.calls g s0_0 s0_1 s0_2 false t144 t145 t146 w0 _ ?side1 ?side2 A3.out).mono ?_);(case side1=>repeat (first|(with_reducible first|exact HI0.out|apply IsS126.alloc|apply IsS126.drewN|apply IsS126.drew|apply IsS126.set_0|apply IsS126.set_1|apply IsS126.set_2)|exact HI0.out));(case side2=>repeat (first|(with_reducible first|exact HB.out|apply below_alloc|apply pw_below_drewN|apply below_drew1|refine below_set ?_ (IsS126.ge HI0.out))|exact HB.out));rintro e w20 ⟨rfl,hi,hb,hk⟩;have n0_:=Aside0.mk (KeepBut.trans (by repeat (first|(with_reducible first|exact HK.out|apply KeepBut.set_|apply keep_drewN|apply keep_drew|apply keep_alloc)|exact HK.out)) hk (.inl rfl));have n1_:=Aside0.mk (hb);have n2_:=Aside0.mk (hi);clear HK;clear HB;clear HI0;have HK:=n0_;have HB:=n1_;have HI0:=n2_;clear n0_ n1_ n2_)|(go_at_call 79;(with_reducible refine (code_Reader_Left.calls g t144 t145 t146 t150 t151 t152 t153 w0 _ ?side1 ?side2 A10.out).mono ?_);(case side1=>repeat (first|(with_reducible first|exact HI0.out|apply IsS126.alloc|apply IsS126.drewN|apply IsS126.drew|apply IsS126.set_0|apply IsS126.set_1|apply IsS126.set_2)|exact HI0.out));(case side2=>repeat (first|(with_reducible first|exact HB.out|apply below_alloc|apply pw_below_drewN|apply below_drew1|refine below_set ?_ (IsS126.ge HI0.out))|exact HB.out));rintro e w21 ⟨rfl,hi,hb,hk⟩;have n0_:=Aside0.mk (KeepBut.trans (by repeat (first|(with_reducible first|exact HK.out|apply KeepBut.set_|apply keep_drewN|apply keep_drew|apply keep_alloc)|exact HK.out)) hk (.inl rfl));have n1_:=Aside0.mk (hb);have n2_:=Aside0.mk (hi);clear HK;clear HB;clear HI0;have HK:=n0_;have HB:=n1_;have HI0:=n2_;clear n0_ n1_ n2_;obtain ⟨HGz22,hgz22⟩:=HI0.out;have hcz22_0:=cellS126_0 HGz22;have hcz22_1:=cellS126_1 HGz22;have hcz22_2:=cellS126_2 HGz22;have hfz22_0:=blk_frozen HGz22 0;have hfz22_1:=blk_frozen HGz22 1;have hfz22_2:=blk_frozen HGz22 2;clear HGz22 hgz22)))
       go_ret
       exact ⟨by first|rfl|(simp [errW_none]<;>rfl)|(simp only [← hji16];first|rfl|(simp [errW_none]<;>rfl))|(simp [*]<;>rfl),by repeat (first|(with_reducible first|exact HI0.out|apply IsS126.alloc|apply IsS126.drewN|apply IsS126.drew|apply IsS126.set_0|apply IsS126.set_1|apply IsS126.set_2)|exact HI0.out),by repeat (first|(with_reducible first|exact HB.out|apply below_alloc|apply pw_below_drewN|apply below_drew1|refine below_set ?_ (IsS126.ge HI0.out))|exact HB.out),by repeat (first|(with_reducible first|exact HK.out|apply KeepBut.set_|apply keep_drewN|apply keep_drew|apply keep_alloc)|exact HK.out)⟩
      ·rw [if_neg c19] at H
       exact absurd H (by simp)
     ·rw [if_neg c18] at H
      exact absurd H (by simp)
    ·rw [if_neg c17] at H
     exact absurd H (by simp)
end Go.Proofs.YthejnffhfmdpnaaDoor.Q

end

section
namespace Go.Proofs.YthejnffhfmdpnaaDoor.Q
open Go.RowKit Go.Proofs.YthejnffhfmdpnaaDoorW.PrintWords Go.Proofs.YthejnffhfmdpnaaDoorW.PrintLast Go.Proofs.YthejnffhfmdpnaaDoorW.PrintMore
attribute [local go_sem] min2_int min_two
set_option linter.unusedVariables false
set_option linter.unusedSimpArgs false
def code_Reader_Text.f (k:Nat) (s0_0:ByteArray) (s0_1:Int) (s0_2:Int) (a1:Int):Option (ByteArray × ByteArray × Int × Int):=(code_Reader_Count.f k s0_0 s0_1 s0_2 a1).bind fun bt157=>((code_Reader_Raw.f bt157.2.1 bt157.2.2.1 bt157.2.2.2 bt157.1).bind fun bt161=>(some (bt161.1,bt161.2.1,bt161.2.2.1,bt161.2.2.2)))
set_option maxHeartbeats 8000000 in
set_option maxRecDepth 100000 in
theorem code_Reader_Text.calls (k:Nat) (g:Nat) (s0_0:ByteArray) (s0_1:Int) (s0_2:Int) (a1:Int) (r1:ByteArray) (r2:ByteArray) (r3:Int) (r4:Int) (w0 w:World) (hI:IsS126 w0 w g s0_0 s0_1 s0_2) (hB:Below w0.heap.size w0 w) (h:code_Reader_Text.f k s0_0 s0_1 s0_2 a1=some (r1,r2,r3,r4)):
  Calls Tryd.prog 76 #[.pointer (some ⟨g,0,none⟩), .int .i64 a1] w fun e w'=>e= .returned (.string r1)∧IsS126 w0 w' g r2 r3 r4∧Below w0.heap.size w0 w'∧KeepBut w w' g none:=by
 have HI0:=Aside0.mk hI
 have HK:=Aside0.mk (KeepBut.refl w g none)
 have HL:=Aside0.mk hB.size
 clear hI
 have HW0:=Aside0.mk hB.size
 have HB:=Aside0.mk hB
 clear hB
 have H:((code_Reader_Count.f k s0_0 s0_1 s0_2 a1).bind fun bt157=>((code_Reader_Raw.f bt157.2.1 bt157.2.2.1 bt157.2.2.2 bt157.1).bind fun bt161=>(some (bt161.1,bt161.2.1,bt161.2.2.1,bt161.2.2.2))))=some (r1,r2,r3,r4):=h
 clear h
 replace H:=Option.bind_eq_some_iff.mp H
 obtain ⟨⟨t157,t158,t159,t160⟩,A30,H⟩:=H
 replace H:((code_Reader_Raw.f t158 t159 t160 t157).bind fun bt161=>(some (bt161.1,bt161.2.1,bt161.2.2.1,bt161.2.2.2)))=some (r1,r2,r3,r4):=H
 have A3:=Aside0.mk A30
 clear A30
 replace H:=Option.bind_eq_some_iff.mp H
 obtain ⟨⟨t161,t162,t163,t164⟩,A40,H⟩:=H
 replace H:(some (t161,t162,t163,t164))=some (r1,r2,r3,r4):=H
 have A4:=Aside0.mk A40
 clear A40
 simp only [Option.some.injEq,Prod.mk.injEq] at H
 obtain ⟨rfl,rfl,rfl,rfl⟩:=H
 go_enter Tryd.func76,Tryd.ntmps76
 go_wp2_with (first|((with_reducible refine gate_callee (f:=75) rfl ?_);refine goesL_ (some 8) rfl rfl Tryd.func75 (by kernel_rfl) rfl #[.pointer (some ⟨g,0,none⟩), .int .i64 a1] rfl (by (try simp only [List.map_toArray,List.map_cons,List.map_nil]);try rfl) ?_;(with_reducible refine (code_Reader_Count.calls k g s0_0 s0_1 s0_2 a1 t157 t158 t159 t160 w0 _ ?side1 ?side2 A3.out).mono ?_);(case side1=>repeat (first|(with_reducible first|exact HI0.out|apply IsS126.alloc|apply IsS126.drewN|apply IsS126.drew|apply IsS126.set_0|apply IsS126.set_1|apply IsS126.set_2)|exact HI0.out));(case side2=>repeat (first|(with_reducible first|exact HB.out|apply below_alloc|apply pw_below_drewN|apply below_drew1|refine below_set ?_ (IsS126.ge HI0.out))|exact HB.out));rintro e w5 ⟨rfl,hi,hb,hk⟩;refine ⟨_,rfl,?_⟩;have n0_:=Aside0.mk (KeepBut.trans (by repeat (first|(with_reducible first|exact HK.out|apply KeepBut.set_|apply keep_drewN|apply keep_drew|apply keep_alloc)|exact HK.out)) hk (.inl rfl));have n1_:=Aside0.mk (hb);have n2_:=Aside0.mk (hi);clear HK;clear HB;clear HI0;have HK:=n0_;have HB:=n1_;have HI0:=n2_;clear n0_ n1_ n2_)|((with_reducible refine gate_callee (f:=88) rfl ?_);refine goesL_ (some 9) rfl rfl Tryd.func88 (by kernel_rfl) rfl #[.pointer (some ⟨g,0,none⟩), .int .i64 t157] rfl (by (try simp only [List.map_toArray,List.map_cons,List.map_nil]);try rfl) ?_;(with_reducible refine (code_Reader_Raw.calls g t158 t159 t160 t157 t161 t162 t163 t164 w0 _ ?side1 ?side2 A4.out).mono ?_);(case side1=>repeat (first|(with_reducible first|exact HI0.out|apply IsS126.alloc|apply IsS126.drewN|apply IsS126.drew|apply IsS126.set_0|apply IsS126.set_1|apply IsS126.set_2)|exact HI0.out));(case side2=>repeat (first|(with_reducible first|exact HB.out|apply below_alloc|apply pw_below_drewN|apply below_drew1|refine below_set ?_ (IsS126.ge HI0.out))|exact HB.out));rintro e w6 ⟨rfl,hi,hb,hk⟩;refine ⟨_,rfl,?_⟩;have n0_:=Aside0.mk (KeepBut.trans (by repeat (first|(with_reducible first|exact HK.out|apply KeepBut.set_|apply keep_drewN|apply keep_drew|apply keep_alloc)|exact HK.out)) hk (.inl rfl));have n1_:=Aside0.mk (hb);have n2_:=Aside0.mk (hi);clear HK;clear HB;clear HI0;have HK:=n0_;have HB:=n1_;have HI0:=n2_;clear n0_ n1_ n2_))
 go_ret
 exact ⟨by first|rfl|(simp [errW_none]<;>rfl)|(simp [*]<;>rfl),by repeat (first|(with_reducible first|exact HI0.out|apply IsS126.alloc|apply IsS126.drewN|apply IsS126.drew|apply IsS126.set_0|apply IsS126.set_1|apply IsS126.set_2)|exact HI0.out),by repeat (first|(with_reducible first|exact HB.out|apply below_alloc|apply pw_below_drewN|apply below_drew1|refine below_set ?_ (IsS126.ge HI0.out))|exact HB.out),by repeat (first|(with_reducible first|exact HK.out|apply KeepBut.set_|apply keep_drewN|apply keep_drew|apply keep_alloc)|exact HK.out)⟩
end Go.Proofs.YthejnffhfmdpnaaDoor.Q

end

section
namespace Go.Proofs.YthejnffhfmdpnaaDoor.Q
open Go.RowKit Go.Proofs.YthejnffhfmdpnaaDoorW.PrintWords Go.Proofs.YthejnffhfmdpnaaDoorW.PrintLast Go.Proofs.YthejnffhfmdpnaaDoorW.PrintMore
attribute [local go_sem] min2_int min_two
set_option linter.unusedVariables false
set_option linter.unusedSimpArgs false
def code_Reader_Err.f (s0_0:ByteArray) (s0_1:Int) (s0_2:Int):Option (Int × ByteArray × Int × Int):=some (s0_2,s0_0,s0_1,s0_2)
set_option maxHeartbeats 8000000 in
set_option maxRecDepth 100000 in
theorem code_Reader_Err.calls (g:Nat) (s0_0:ByteArray) (s0_1:Int) (s0_2:Int) (r1:Int) (r2:ByteArray) (r3:Int) (r4:Int) (w0 w:World) (hI:IsS126 w0 w g s0_0 s0_1 s0_2) (hB:Below w0.heap.size w0 w) (h:code_Reader_Err.f s0_0 s0_1 s0_2=some (r1,r2,r3,r4)):
  Calls Tryd.prog 78 #[.pointer (some ⟨g,0,none⟩)] w fun e w'=>e= .returned (.int .i64 r1)∧IsS126 w0 w' g r2 r3 r4∧Below w0.heap.size w0 w'∧KeepBut w w' g none:=by
 have HI0:=Aside0.mk hI
 have HK:=Aside0.mk (KeepBut.refl w g none)
 have HL:=Aside0.mk hB.size
 clear hI
 have HW0:=Aside0.mk hB.size
 have HB:=Aside0.mk hB
 clear hB
 have H:(some (s0_2,s0_0,s0_1,s0_2))=some (r1,r2,r3,r4):=h
 clear h
 simp only [Option.some.injEq,Prod.mk.injEq] at H
 obtain ⟨rfl,rfl,rfl,rfl⟩:=H
 obtain ⟨HGz2,hgz2⟩:=HI0.out
 have hcz2_0:=cellS126_0 HGz2
 have hcz2_1:=cellS126_1 HGz2
 have hcz2_2:=cellS126_2 HGz2
 have hfz2_0:=blk_frozen HGz2 0
 have hfz2_1:=blk_frozen HGz2 1
 have hfz2_2:=blk_frozen HGz2 2
 clear HGz2 hgz2
 go_enter Tryd.func78,Tryd.ntmps78
 go_wp2
 go_ret
 exact ⟨by first|rfl|(simp [errW_none]<;>rfl)|(simp [*]<;>rfl),by repeat (first|(with_reducible first|exact HI0.out|apply IsS126.alloc|apply IsS126.drewN|apply IsS126.drew|apply IsS126.set_0|apply IsS126.set_1|apply IsS126.set_2)|exact HI0.out),by repeat (first|(with_reducible first|exact HB.out|apply below_alloc|apply pw_below_drewN|apply below_drew1|refine below_set ?_ (IsS126.ge HI0.out))|exact HB.out),by repeat (first|(with_reducible first|exact HK.out|apply KeepBut.set_|apply keep_drewN|apply keep_drew|apply keep_alloc)|exact HK.out)⟩
end Go.Proofs.YthejnffhfmdpnaaDoor.Q

end

section
namespace Go.Proofs.YthejnffhfmdpnaaDoor.Q
open Go.RowKit Go.Proofs.YthejnffhfmdpnaaDoorW.PrintWords Go.Proofs.YthejnffhfmdpnaaDoorW.PrintLast Go.Proofs.YthejnffhfmdpnaaDoorW.PrintMore
attribute [local go_sem] min2_int min_two
set_option linter.unusedVariables false
set_option linter.unusedSimpArgs false
def IsS115 (w0 W:World) (g:Nat) (f0:ByteArray) (f1:Int) (f2:Int):Prop:=W.heap[g]? =some (.cells #[.string f0, .int .i64 f1, .int .i64 f2] 115 (0,0))∧w0.heap.size≤g
theorem IsS115.grown {w0 W:World} {g:Nat} {f0:ByteArray} {f1:Int} {f2:Int} {W1:World} {row:Option Nat} (h:IsS115 w0 W g f0 f1 f2) (hw:W.grownBy W1 row) (hne:some g≠row):IsS115 w0 W1 g f0 f1 f2:=by
 obtain ⟨hb,hg⟩:=h
 exact ⟨blk_grown hb hw hne,hg⟩
theorem IsS115.below {w0 W:World} {g:Nat} {f0:ByteArray} {f1:Int} {f2:Int} {W1:World} (h:IsS115 w0 W g f0 f1 f2) (hw:Below W.heap.size W W1):IsS115 w0 W1 g f0 f1 f2:=h.grown (grown_of_below hw none) (by simp)
theorem IsS115.drewN {w0 W:World} {g:Nat} {f0:ByteArray} {f1:Int} {f2:Int} (h:IsS115 w0 W g f0 f1 f2) (m:Nat):IsS115 w0 (W.drewN m) g f0 f1 f2:=h
theorem IsS115.drew {w0 W:World} {g:Nat} {f0:ByteArray} {f1:Int} {f2:Int} (h:IsS115 w0 W g f0 f1 f2):IsS115 w0 W.drew g f0 f1 f2:=h
theorem IsS115.apart {w0 W:World} {g:Nat} {f0:ByteArray} {f1:Int} {f2:Int} {α:Type} {d:Kd α} {e:Nat} {base:Nat} {ok:Nat→Prop} {v:Value} {xs:List α} (h:IsS115 w0 W g f0 f1 f2) (ho:d.R e W base ok v xs) (ht: ∀q,q ∈ e::d.E→q≠115):d.R e W base (fun k=>ok k∧k≠g) v xs:=by
 obtain ⟨hb,hg⟩:=h
 exact Kd.R_types ho hb ht
theorem IsS115.own_ne {w0 W:World} {g:Nat} {f0:ByteArray} {f1:Int} {f2:Int} {α:Type} {d:Kd α} {e:Nat} {base:Nat} {ok:Nat→Prop} {v:Value} {xs:List α} (h:IsS115 w0 W g f0 f1 f2) (ho:d.R e W base ok v xs) (ht:e≠115):some g≠v.ownBlock:=by
 obtain ⟨hb,hg⟩:=h
 exact Kd.R_ne ho hb ht
theorem IsS115.lt {w0 W:World} {g:Nat} {f0:ByteArray} {f1:Int} {f2:Int} (h:IsS115 w0 W g f0 f1 f2):g < W.heap.size:=by
 obtain ⟨hb,hg⟩:=h
 exact blk_lt hb
theorem IsS115.ge {w0 W:World} {g:Nat} {f0:ByteArray} {f1:Int} {f2:Int} (h:IsS115 w0 W g f0 f1 f2):w0.heap.size≤g:=by
 obtain ⟨hb,hg⟩:=h
 exact hg
theorem IsS115.far {w0 W:World} {g:Nat} {f0:ByteArray} {f1:Int} {f2:Int} {p:Addr} (h:IsS115 w0 W g f0 f1 f2) (hne:g≠p.block) (u:Value):IsS115 w0 (W.setCell p u) g f0 f1 f2:=by
 obtain ⟨hb,hg⟩:=h
 exact ⟨blk_far hb hne u,hg⟩
theorem cellS115_0 {W:World} {g:Nat} {f0:ByteArray} {f1:Int} {f2:Int} (h:W.heap[g]? =some (.cells #[.string f0, .int .i64 f1, .int .i64 f2] 115 (0,0))):W.cell? ⟨g,0,none⟩=some (.string f0):=(blk_cell h 0).trans rfl
theorem cellS115_1 {W:World} {g:Nat} {f0:ByteArray} {f1:Int} {f2:Int} (h:W.heap[g]? =some (.cells #[.string f0, .int .i64 f1, .int .i64 f2] 115 (0,0))):W.cell? ⟨g,1,none⟩=some (.int .i64 f1):=(blk_cell h 1).trans rfl
theorem IsS115.set_1 {w0 W:World} {g:Nat} {f0:ByteArray} {f1:Int} {f2:Int} (h:IsS115 w0 W g f0 f1 f2) (x:Int):IsS115 w0 (W.setCell ⟨g,1,none⟩ (.int .i64 x)) g f0 x f2:=by
 obtain ⟨hb,hg⟩:=h
 exact ⟨by simpa using blk_set hb 1 (.int .i64 x),hg⟩
theorem cellS115_2 {W:World} {g:Nat} {f0:ByteArray} {f1:Int} {f2:Int} (h:W.heap[g]? =some (.cells #[.string f0, .int .i64 f1, .int .i64 f2] 115 (0,0))):W.cell? ⟨g,2,none⟩=some (.int .i64 f2):=(blk_cell h 2).trans rfl
theorem IsS115.set_2 {w0 W:World} {g:Nat} {f0:ByteArray} {f1:Int} {f2:Int} (h:IsS115 w0 W g f0 f1 f2) (x:Int):IsS115 w0 (W.setCell ⟨g,2,none⟩ (.int .i64 x)) g f0 f1 x:=by
 obtain ⟨hb,hg⟩:=h
 exact ⟨by simpa using blk_set hb 2 (.int .i64 x),hg⟩
end Go.Proofs.YthejnffhfmdpnaaDoor.Q

end

section
namespace Go.Proofs.YthejnffhfmdpnaaDoor.Q
open Go.RowKit Go.Proofs.YthejnffhfmdpnaaDoorW.PrintWords Go.Proofs.YthejnffhfmdpnaaDoorW.PrintLast Go.Proofs.YthejnffhfmdpnaaDoorW.PrintMore
attribute [local go_sem] min2_int min_two
set_option linter.unusedVariables false
set_option linter.unusedSimpArgs false
def barqueref01_Reader_Byte.f (s0_0:ByteArray) (s0_1:Int) (s0_2:Int):Option (Int × ByteArray × Int × Int):=if s0_2=0 then (if s0_1≥(s0_0.size:Int) then (some (0,s0_0,s0_1,3)) else (if 0≤(wrap64 ((wrap64 (s0_1+1)) - 1)) then (if (wrap64 ((wrap64 (s0_1+1)) - 1)) < (s0_0.size:Int) then (some (wrap64 (bt s0_0 (wrap64 ((wrap64 (s0_1+1)) - 1))),s0_0,wrap64 (s0_1+1),s0_2)) else (none)) else (none))) else (some (0,s0_0,s0_1,s0_2))
set_option maxHeartbeats 8000000 in
set_option maxRecDepth 100000 in
theorem barqueref01_Reader_Byte.calls (g:Nat) (s0_0:ByteArray) (s0_1:Int) (s0_2:Int) (r1:Int) (r2:ByteArray) (r3:Int) (r4:Int) (w0 w:World) (hI:IsS115 w0 w g s0_0 s0_1 s0_2) (hB:Below w0.heap.size w0 w) (h:barqueref01_Reader_Byte.f s0_0 s0_1 s0_2=some (r1,r2,r3,r4)):
  Calls Tryd.prog 83 #[.pointer (some ⟨g,0,none⟩)] w fun e w'=>e= .returned (.int .i64 r1)∧IsS115 w0 w' g r2 r3 r4∧Below w0.heap.size w0 w'∧KeepBut w w' g none:=by
 have HI0:=Aside0.mk hI
 have HK:=Aside0.mk (KeepBut.refl w g none)
 have HL:=Aside0.mk hB.size
 clear hI
 have HW0:=Aside0.mk hB.size
 have HB:=Aside0.mk hB
 clear hB
 have H:(if s0_2=0 then (if s0_1≥(s0_0.size:Int) then (some (0,s0_0,s0_1,3)) else (if 0≤(wrap64 ((wrap64 (s0_1+1)) - 1)) then (if (wrap64 ((wrap64 (s0_1+1)) - 1)) < (s0_0.size:Int) then (some (wrap64 (bt s0_0 (wrap64 ((wrap64 (s0_1+1)) - 1))),s0_0,wrap64 (s0_1+1),s0_2)) else (none)) else (none))) else (some (0,s0_0,s0_1,s0_2)))=some (r1,r2,r3,r4):=h
 clear h
 by_cases c2:s0_2=0
 ·rw [if_pos c2] at H
  have c2b0:(s0_2 == 0)=true:=beq_iff_eq.mpr c2
  have c2b1:(s0_2 != 0)=false:=bne_eq_false_iff_eq.mpr c2
  clear c2
  by_cases c3:s0_1≥(s0_0.size:Int)
  ·rw [if_pos c3] at H
   have c3b0:decide ((s0_0.size:Int)≤s0_1)=true:=decide_eq_true c3
   clear c3
   simp only [Option.some.injEq,Prod.mk.injEq] at H
   obtain ⟨rfl,rfl,rfl,rfl⟩:=H
   obtain ⟨HGz4,hgz4⟩:=HI0.out
   have hcz4_0:=cellS115_0 HGz4
   have hcz4_1:=cellS115_1 HGz4
   have hcz4_2:=cellS115_2 HGz4
   have hfz4_0:=blk_frozen HGz4 0
   have hfz4_1:=blk_frozen HGz4 1
   have hfz4_2:=blk_frozen HGz4 2
   clear HGz4 hgz4
   go_enter Tryd.func83,Tryd.ntmps83
   go_wp2
   repeat (go_quiet (fail);try go_wp2)
   go_ret
   exact ⟨by first|rfl|(simp [errW_none]<;>rfl)|(simp [*]<;>rfl),by repeat (first|(with_reducible first|exact HI0.out|apply IsS115.alloc|apply IsS115.drewN|apply IsS115.drew|apply IsS115.set_0|apply IsS115.set_1|apply IsS115.set_2)|exact HI0.out),by repeat (first|(with_reducible first|exact HB.out|apply below_alloc|apply pw_below_drewN|apply below_drew1|refine below_set ?_ (IsS115.ge HI0.out))|exact HB.out),by repeat (first|(with_reducible first|exact HK.out|apply KeepBut.set_|apply keep_drewN|apply keep_drew|apply keep_alloc)|exact HK.out)⟩
  ·rw [if_neg c3] at H
   have c3b0:decide ((s0_0.size:Int)≤s0_1)=false:=decide_eq_false c3
   clear c3
   obtain ⟨ji5,hji5⟩: ∃j_:Int,(wrap64 ((wrap64 (s0_1+1)) - 1))=j_:=⟨_,rfl⟩
   replace H:(if 0≤(ji5) then (if (ji5) < (s0_0.size:Int) then (some (wrap64 (bt s0_0 (ji5)),s0_0,wrap64 (s0_1+1),s0_2)) else (none)) else (none))=some (r1,r2,r3,r4):=by first|(rw [hji5] at H;exact H)|(simp only [hji5] at H ⊢;exact H)
   have hji5w:(IntKind.i64.wrap ((wrap64 (s0_1+1)) - 1))=ji5:=(i64_w _).trans hji5
   by_cases c6:0≤(ji5)
   ·rw [if_pos c6] at H
    have c6b0:decide (0≤(ji5))=true:=decide_eq_true c6
    clear c6
    by_cases c7:(ji5) < (s0_0.size:Int)
    ·rw [if_pos c7] at H
     have c7b0:decide ((ji5) < (s0_0.size:Int))=true:=decide_eq_true c7
     clear c7
     simp only [Option.some.injEq,Prod.mk.injEq] at H
     obtain ⟨rfl,rfl,rfl,rfl⟩:=H
     obtain ⟨HGz9,hgz9⟩:=HI0.out
     have hcz9_0:=cellS115_0 HGz9
     have hcz9_1:=cellS115_1 HGz9
     have hcz9_2:=cellS115_2 HGz9
     have hfz9_0:=blk_frozen HGz9 0
     have hfz9_1:=blk_frozen HGz9 1
     have hfz9_2:=blk_frozen HGz9 2
     clear HGz9 hgz9
     have p8:0≤((ji5):Int):=of_decide_eq_true (by assumption)
     have q8:(ji5) < (s0_0.size:Int):=of_decide_eq_true (by assumption)
     have hx8:=bt_at s0_0 (ji5)
     replace p8:=eq_true p8
     replace q8:=eq_true q8
     go_enter Tryd.func83,Tryd.ntmps83
     go_wp2
     repeat (go_quiet (fail);try go_wp2)
     go_ret
     exact ⟨by first|rfl|(simp [errW_none]<;>rfl)|(simp only [← hji5];first|rfl|(simp [errW_none]<;>rfl))|(simp [*]<;>rfl),by repeat (first|(with_reducible first|exact HI0.out|apply IsS115.alloc|apply IsS115.drewN|apply IsS115.drew|apply IsS115.set_0|apply IsS115.set_1|apply IsS115.set_2)|exact HI0.out),by repeat (first|(with_reducible first|exact HB.out|apply below_alloc|apply pw_below_drewN|apply below_drew1|refine below_set ?_ (IsS115.ge HI0.out))|exact HB.out),by repeat (first|(with_reducible first|exact HK.out|apply KeepBut.set_|apply keep_drewN|apply keep_drew|apply keep_alloc)|exact HK.out)⟩
    ·rw [if_neg c7] at H
     exact absurd H (by simp)
   ·rw [if_neg c6] at H
    exact absurd H (by simp)
 ·rw [if_neg c2] at H
  have c2b0:(s0_2 == 0)=false:=beq_eq_false_iff_ne.mpr c2
  have c2b1:(s0_2 != 0)=true:=bne_iff_ne.mpr c2
  simp only [Option.some.injEq,Prod.mk.injEq] at H
  obtain ⟨rfl,rfl,rfl,rfl⟩:=H
  obtain ⟨HGz10,hgz10⟩:=HI0.out
  have hcz10_0:=cellS115_0 HGz10
  have hcz10_1:=cellS115_1 HGz10
  have hcz10_2:=cellS115_2 HGz10
  have hfz10_0:=blk_frozen HGz10 0
  have hfz10_1:=blk_frozen HGz10 1
  have hfz10_2:=blk_frozen HGz10 2
  clear HGz10 hgz10
  go_enter Tryd.func83,Tryd.ntmps83
  go_wp2
  repeat (go_quiet (fail);try go_wp2)
  go_ret
  exact ⟨by first|rfl|(simp [errW_none]<;>rfl)|(simp [*]<;>rfl),by repeat (first|(with_reducible first|exact HI0.out|apply IsS115.alloc|apply IsS115.drewN|apply IsS115.drew|apply IsS115.set_0|apply IsS115.set_1|apply IsS115.set_2)|exact HI0.out),by repeat (first|(with_reducible first|exact HB.out|apply below_alloc|apply pw_below_drewN|apply below_drew1|refine below_set ?_ (IsS115.ge HI0.out))|exact HB.out),by repeat (first|(with_reducible first|exact HK.out|apply KeepBut.set_|apply keep_drewN|apply keep_drew|apply keep_alloc)|exact HK.out)⟩
end Go.Proofs.YthejnffhfmdpnaaDoor.Q

end

section
namespace Go.Proofs.YthejnffhfmdpnaaDoor.Q
open Go.RowKit Go.Proofs.YthejnffhfmdpnaaDoorW.PrintWords Go.Proofs.YthejnffhfmdpnaaDoorW.PrintLast Go.Proofs.YthejnffhfmdpnaaDoorW.PrintMore
attribute [local go_sem] min2_int min_two
set_option linter.unusedVariables false
set_option linter.unusedSimpArgs false
mutual
def barqueref01_Reader_Num.l0:Nat→Int→Int→Int→ByteArray→Int→Int→Option (Int × ByteArray × Int × Int)
 |0,_,_,_,_,_,_=>none
 |k+1,x3,x4,x5,x1000,x1001,x1002=>if x5 < 9 then ((barqueref01_Reader_Byte.f x1000 x1001 x1002).bind fun bt221=>(if bt221.2.2.2=0 then (if x5 > 0 then (if bt221.1=0 then (barqueref01_Reader_Num.j1 k x3 x4 x5 bt221.1 true bt221.2.1 bt221.2.2.1 bt221.2.2.2) else (if x5=8 then (barqueref01_Reader_Num.j1 k x3 x4 x5 bt221.1 (decide (bt221.1 > 63)) bt221.2.1 bt221.2.2.1 bt221.2.2.2) else (barqueref01_Reader_Num.j1 k x3 x4 x5 bt221.1 false bt221.2.1 bt221.2.2.1 bt221.2.2.2))) else (if x5=8 then (barqueref01_Reader_Num.j1 k x3 x4 x5 bt221.1 (decide (bt221.1 > 63)) bt221.2.1 bt221.2.2.1 bt221.2.2.2) else (barqueref01_Reader_Num.j1 k x3 x4 x5 bt221.1 false bt221.2.1 bt221.2.2.1 bt221.2.2.2))) else (some (0,bt221.2.1,bt221.2.2.1,bt221.2.2.2)))) else (some (x3,x1000,x1001,x1002))
def barqueref01_Reader_Num.j1:Nat→Int→Int→Int→Int→Bool→ByteArray→Int→Int→Option (Int × ByteArray × Int × Int)
 |0,_,_,_,_,_,_,_,_=>none
 |k+1,x3,x4,x5,x6,x31,x1000,x1001,x1002=>if x31=true then (some (0,x1000,x1001,5)) else (if x6 < 128 then (some (wrap64 (x3+(wrap64 ((Int.tmod x6 128)*x4))),x1000,x1001,x1002)) else (barqueref01_Reader_Num.l0 k (wrap64 (x3+(wrap64 ((Int.tmod x6 128)*x4)))) (wrap64 (x4*128)) (wrap64 (x5+1)) x1000 x1001 x1002))
end
def barqueref01_Reader_Num.f (k:Nat) (s0_0:ByteArray) (s0_1:Int) (s0_2:Int):Option (Int × ByteArray × Int × Int):=barqueref01_Reader_Num.l0 k 0 1 0 s0_0 s0_1 s0_2
set_option maxHeartbeats 8000000 in
set_option maxRecDepth 100000 in
theorem barqueref01_Reader_Num.calls (k:Nat) (g:Nat) (s0_0:ByteArray) (s0_1:Int) (s0_2:Int) (r1:Int) (r2:ByteArray) (r3:Int) (r4:Int) (w0 w:World) (hI:IsS115 w0 w g s0_0 s0_1 s0_2) (hB:Below w0.heap.size w0 w) (h:barqueref01_Reader_Num.f k s0_0 s0_1 s0_2=some (r1,r2,r3,r4)):
  Calls Tryd.prog 69 #[.pointer (some ⟨g,0,none⟩)] w fun e w'=>e= .returned (.int .i64 r1)∧IsS115 w0 w' g r2 r3 r4∧Below w0.heap.size w0 w'∧KeepBut w w' g none:=by
 have HI0:=Aside0.mk hI
 have HK:=Aside0.mk (KeepBut.refl w g none)
 have HL:=Aside0.mk hB.size
 clear hI
 have HW0:=Aside0.mk hB.size
 have HB:=Aside0.mk hB
 clear hB
 have H:(barqueref01_Reader_Num.l0 k 0 1 0 s0_0 s0_1 s0_2)=some (r1,r2,r3,r4):=h
 clear h
 have H':=Aside0.mk H
 clear H
 go_enter Tryd.func69,Tryd.ntmps69
 go_wp2
 go_loopg [3,4,5] k (fun kq v3 v4 v5 w'=> ∃(x3_1:Int) (x4_1:Int) (x5_1:Int) (x1000_1:ByteArray) (x1001_1:Int) (x1002_1:Int),v3= .int .i64 x3_1∧v4= .int .i64 x4_1∧v5= .int .i64 x5_1∧Aside0 (barqueref01_Reader_Num.l0 kq x3_1 x4_1 x5_1 x1000_1 x1001_1 x1002_1=some (r1,r2,r3,r4))∧Aside0 (kq≤k)∧Aside0 (IsS115 w0 w' g x1000_1 x1001_1 x1002_1)∧Aside0 (KeepBut w w' g none)∧Aside0 (Below w0.heap.size w0 w'))
 case atStart=>exact ⟨(0),(1),(0),(s0_0),(s0_1),(s0_2),(by first|rfl|(simp;done)|(simp [*];done)),(by first|rfl|(simp;done)|(simp [*];done)),(by first|rfl|(simp;done)|(simp [*];done)),H',⟨Nat.le_refl _⟩,⟨by repeat (first|(with_reducible first|exact HI0.out|apply IsS115.alloc|apply IsS115.drewN|apply IsS115.drew|apply IsS115.set_0|apply IsS115.set_1|apply IsS115.set_2)|exact HI0.out)⟩,⟨by repeat (first|(with_reducible first|exact HK.out|apply KeepBut.set_|apply keep_drewN|apply keep_drew|apply keep_alloc)|exact HK.out)⟩,⟨by repeat (first|(with_reducible first|exact HB.out|apply below_alloc|apply pw_below_drewN|apply below_drew1|refine below_set ?_ (IsS115.ge HI0.out))|exact HB.out)⟩⟩
 case round=>
  clear H'
  obtain ⟨x3_1,x4_1,x5_1,x1000_1,x1001_1,x1002_1,rfl,rfl,rfl,HA,HK1,HI0,HK,HB⟩:=hrel
  cases gk with
  |zero=>exact absurd HA.out (by simp [barqueref01_Reader_Num.l0])
  |succ k1=>
   have H:=HA.out
   clear HA
   simp only [barqueref01_Reader_Num.l0] at H
   by_cases c2:x5_1 < 9
   ·rw [if_pos c2] at H
    have c2b0:decide (x5_1 < 9)=true:=decide_eq_true c2
    clear c2
    replace H:=Option.bind_eq_some_iff.mp H
    obtain ⟨⟨t221,t222,t223,t224⟩,A30,H⟩:=H
    replace H:(if t224=0 then (if x5_1 > 0 then (if t221=0 then (barqueref01_Reader_Num.j1 k1 x3_1 x4_1 x5_1 t221 true t222 t223 t224) else (if x5_1=8 then (barqueref01_Reader_Num.j1 k1 x3_1 x4_1 x5_1 t221 (decide (t221 > 63)) t222 t223 t224) else (barqueref01_Reader_Num.j1 k1 x3_1 x4_1 x5_1 t221 false t222 t223 t224))) else (if x5_1=8 then (barqueref01_Reader_Num.j1 k1 x3_1 x4_1 x5_1 t221 (decide (t221 > 63)) t222 t223 t224) else (barqueref01_Reader_Num.j1 k1 x3_1 x4_1 x5_1 t221 false t222 t223 t224))) else (some (0,t222,t223,t224)))=some (r1,r2,r3,r4):=H
    have A3:=Aside0.mk A30
    clear A30
    by_cases c4:t224=0
    ·rw [if_pos c4] at H
     have c4b0:(t224 == 0)=true:=beq_iff_eq.mpr c4
     have c4b1:(t224 != 0)=false:=bne_eq_false_iff_eq.mpr c4
     clear c4
     have HC5:=Aside0.mk H
     clear H
     go_upto_region 9 with (first|((with_reducible refine gate_callee (f:=83) rfl ?_);refine goesL_ (some 12) rfl rfl Tryd.func83 (by kernel_rfl) rfl #[.pointer (some ⟨g,0,none⟩)] rfl (by (try simp only [List.map_toArray,List.map_cons,List.map_nil]);try rfl) ?_;(with_reducible refine (barqueref01_Reader_Byte.calls g x1000_1 x1001_1 x1002_1 t221 t222 t223 t224 w0 _ ?side1 ?side2 A3.out).mono ?_);(case side1=>repeat (first|(with_reducible first|exact HI0.out|apply IsS115.alloc|apply IsS115.drewN|apply IsS115.drew|apply IsS115.set_0|apply IsS115.set_1|apply IsS115.set_2)|exact HI0.out));(case side2=>repeat (first|(with_reducible first|exact HB.out|apply below_alloc|apply pw_below_drewN|apply below_drew1|refine below_set ?_ (IsS115.ge HI0.out))|exact HB.out));rintro e w6 ⟨rfl,hi,hb,hk⟩;refine ⟨_,rfl,?_⟩;have n0_:=Aside0.mk (KeepBut.trans (by repeat (first|(with_reducible first|exact HK.out|apply KeepBut.set_|apply keep_drewN|apply keep_drew|apply keep_alloc)|exact HK.out)) hk (.inl rfl));have n1_:=Aside0.mk (hb);have n2_:=Aside0.mk (hi);clear HK;clear HB;clear HI0;have HK:=n0_;have HB:=n1_;have HI0:=n2_;clear n0_ n1_ n2_;obtain ⟨HGz7,hgz7⟩:=HI0.out;have hcz7_0:=cellS115_0 HGz7;have hcz7_1:=cellS115_1 HGz7;have hcz7_2:=cellS115_2 HGz7;have hfz7_0:=blk_frozen HGz7 0;have hfz7_1:=blk_frozen HGz7 1;have hfz7_2:=blk_frozen HGz7 2;clear HGz7 hgz7))
     (try simp only [Act.put,List.setIfInBounds_toArray,List.set_cons_zero,List.set_cons_succ])
     go_cut [31] (fun v31 wc=> ∃(kq:Nat) (x31_4:Bool),v31= .bool x31_4∧Aside0 (barqueref01_Reader_Num.j1 kq x3_1 x4_1 x5_1 t221 x31_4 t222 t223 t224=some (r1,r2,r3,r4))∧Aside0 (kq≤k1)∧Aside0 (IsS115 w0 wc g t222 t223 t224)∧Aside0 (KeepBut w wc g none)∧Aside0 (Below w0.heap.size w0 wc))
     case first=>
      have H:=HC5.out
      clear HC5
      by_cases c8:x5_1 > 0
      ·rw [if_pos c8] at H
       have c8b0:decide (0 < x5_1)=true:=decide_eq_true c8
       clear c8
       (first|rw [c8b0]|(simp only [i64_w];rw [c8b0])|skip)
       by_cases c9:t221=0
       ·rw [if_pos c9] at H
        have c9b0:(t221 == 0)=true:=beq_iff_eq.mpr c9
        have c9b1:(t221 != 0)=false:=bne_eq_false_iff_eq.mpr c9
        clear c9
        have H':=Aside0.mk H
        clear H
        go_wp2
        go_meet
        case rel=>exact ⟨_,(true),(by first|rfl|(simp;done)|(simp [*];done)),H',⟨by have:=HK1.out;first|omega|exact Nat.le_refl _⟩,⟨by repeat (first|(with_reducible first|exact HI0.out|apply IsS115.alloc|apply IsS115.drewN|apply IsS115.drew|apply IsS115.set_0|apply IsS115.set_1|apply IsS115.set_2)|exact HI0.out)⟩,⟨by repeat (first|(with_reducible first|exact HK.out|apply KeepBut.set_|apply keep_drewN|apply keep_drew|apply keep_alloc)|exact HK.out)⟩,⟨by repeat (first|(with_reducible first|exact HB.out|apply below_alloc|apply pw_below_drewN|apply below_drew1|refine below_set ?_ (IsS115.ge HI0.out))|exact HB.out)⟩⟩
       ·rw [if_neg c9] at H
        have c9b0:(t221 == 0)=false:=beq_eq_false_iff_ne.mpr c9
        have c9b1:(t221 != 0)=true:=bne_iff_ne.mpr c9
        by_cases c10:x5_1=8
        ·rw [if_pos c10] at H
         have c10b0:(x5_1 == 8)=true:=beq_iff_eq.mpr c10
         have c10b1:(x5_1 != 8)=false:=bne_eq_false_iff_eq.mpr c10
         clear c10
         have H':=Aside0.mk H
         clear H
         go_wp2
         go_meet
         case rel=>exact ⟨_,(decide (t221 > 63)),(by first|rfl|(simp;done)|(simp [*];done)),H',⟨by have:=HK1.out;first|omega|exact Nat.le_refl _⟩,⟨by repeat (first|(with_reducible first|exact HI0.out|apply IsS115.alloc|apply IsS115.drewN|apply IsS115.drew|apply IsS115.set_0|apply IsS115.set_1|apply IsS115.set_2)|exact HI0.out)⟩,⟨by repeat (first|(with_reducible first|exact HK.out|apply KeepBut.set_|apply keep_drewN|apply keep_drew|apply keep_alloc)|exact HK.out)⟩,⟨by repeat (first|(with_reducible first|exact HB.out|apply below_alloc|apply pw_below_drewN|apply below_drew1|refine below_set ?_ (IsS115.ge HI0.out))|exact HB.out)⟩⟩
        ·rw [if_neg c10] at H
         have c10b0:(x5_1 == 8)=false:=beq_eq_false_iff_ne.mpr c10
         have c10b1:(x5_1 != 8)=true:=bne_iff_ne.mpr c10
         have H':=Aside0.mk H
         clear H
         go_wp2
         go_meet
         case rel=>exact ⟨_,(false),(by first|rfl|(simp;done)|(simp [*];done)),H',⟨by have:=HK1.out;first|omega|exact Nat.le_refl _⟩,⟨by repeat (first|(with_reducible first|exact HI0.out|apply IsS115.alloc|apply IsS115.drewN|apply IsS115.drew|apply IsS115.set_0|apply IsS115.set_1|apply IsS115.set_2)|exact HI0.out)⟩,⟨by repeat (first|(with_reducible first|exact HK.out|apply KeepBut.set_|apply keep_drewN|apply keep_drew|apply keep_alloc)|exact HK.out)⟩,⟨by repeat (first|(with_reducible first|exact HB.out|apply below_alloc|apply pw_below_drewN|apply below_drew1|refine below_set ?_ (IsS115.ge HI0.out))|exact HB.out)⟩⟩
      ·rw [if_neg c8] at H
       have c8b0:decide (0 < x5_1)=false:=decide_eq_false c8
       clear c8
       (first|rw [c8b0]|(simp only [i64_w];rw [c8b0])|skip)
       by_cases c11:x5_1=8
       ·rw [if_pos c11] at H
        have c11b0:(x5_1 == 8)=true:=beq_iff_eq.mpr c11
        have c11b1:(x5_1 != 8)=false:=bne_eq_false_iff_eq.mpr c11
        clear c11
        have H':=Aside0.mk H
        clear H
        go_wp2
        go_meet
        case rel=>exact ⟨_,(decide (t221 > 63)),(by first|rfl|(simp;done)|(simp [*];done)),H',⟨by have:=HK1.out;first|omega|exact Nat.le_refl _⟩,⟨by repeat (first|(with_reducible first|exact HI0.out|apply IsS115.alloc|apply IsS115.drewN|apply IsS115.drew|apply IsS115.set_0|apply IsS115.set_1|apply IsS115.set_2)|exact HI0.out)⟩,⟨by repeat (first|(with_reducible first|exact HK.out|apply KeepBut.set_|apply keep_drewN|apply keep_drew|apply keep_alloc)|exact HK.out)⟩,⟨by repeat (first|(with_reducible first|exact HB.out|apply below_alloc|apply pw_below_drewN|apply below_drew1|refine below_set ?_ (IsS115.ge HI0.out))|exact HB.out)⟩⟩
       ·rw [if_neg c11] at H
        have c11b0:(x5_1 == 8)=false:=beq_eq_false_iff_ne.mpr c11
        have c11b1:(x5_1 != 8)=true:=bne_iff_ne.mpr c11
        have H':=Aside0.mk H
        clear H
        go_wp2
        go_meet
        case rel=>exact ⟨_,(false),(by first|rfl|(simp;done)|(simp [*];done)),H',⟨by have:=HK1.out;first|omega|exact Nat.le_refl _⟩,⟨by repeat (first|(with_reducible first|exact HI0.out|apply IsS115.alloc|apply IsS115.drewN|apply IsS115.drew|apply IsS115.set_0|apply IsS115.set_1|apply IsS115.set_2)|exact HI0.out)⟩,⟨by repeat (first|(with_reducible first|exact HK.out|apply KeepBut.set_|apply keep_drewN|apply keep_drew|apply keep_alloc)|exact HK.out)⟩,⟨by repeat (first|(with_reducible first|exact HB.out|apply below_alloc|apply pw_below_drewN|apply below_drew1|refine below_set ?_ (IsS115.ge HI0.out))|exact HB.out)⟩⟩
     case rest=>
      clear HC5
      obtain ⟨kq,x31_4,rfl,HA,HJ4,HI0,HK,HB⟩:=hcut
      cases kq with
      |zero=>exact absurd HA.out (by simp [barqueref01_Reader_Num.j1])
      |succ kj4=>
       have H:=HA.out
       clear HA
       simp only [barqueref01_Reader_Num.j1] at H
       by_cases c12:x31_4=true
       ·subst c12
        have H1:(some (0,t222,t223,5))=some (r1,r2,r3,r4):=by rw [if_pos rfl] at H;exact H
        clear H
        have H:=H1
        clear H1
        simp only [Option.some.injEq,Prod.mk.injEq] at H
        obtain ⟨rfl,rfl,rfl,rfl⟩:=H
        obtain ⟨HGz13,hgz13⟩:=HI0.out
        have hcz13_0:=cellS115_0 HGz13
        have hcz13_1:=cellS115_1 HGz13
        have hcz13_2:=cellS115_2 HGz13
        have hfz13_0:=blk_frozen HGz13 0
        have hfz13_1:=blk_frozen HGz13 1
        have hfz13_2:=blk_frozen HGz13 2
        clear HGz13 hgz13
        go_wp2
        go_ret
        exact ⟨by first|rfl|(simp [errW_none]<;>rfl)|(simp [*]<;>rfl),by repeat (first|(with_reducible first|exact HI0.out|apply IsS115.alloc|apply IsS115.drewN|apply IsS115.drew|apply IsS115.set_0|apply IsS115.set_1|apply IsS115.set_2)|exact HI0.out),by repeat (first|(with_reducible first|exact HB.out|apply below_alloc|apply pw_below_drewN|apply below_drew1|refine below_set ?_ (IsS115.ge HI0.out))|exact HB.out),by repeat (first|(with_reducible first|exact HK.out|apply KeepBut.set_|apply keep_drewN|apply keep_drew|apply keep_alloc)|exact HK.out)⟩
       ·replace c12:=Bool.eq_false_iff.mpr c12
        subst c12
        have H1:(if t221 < 128 then (some (wrap64 (x3_1+(wrap64 ((Int.tmod t221 128)*x4_1))),t222,t223,t224)) else (barqueref01_Reader_Num.l0 kj4 (wrap64 (x3_1+(wrap64 ((Int.tmod t221 128)*x4_1)))) (wrap64 (x4_1*128)) (wrap64 (x5_1+1)) t222 t223 t224))=some (r1,r2,r3,r4):=by rw [if_neg (show ¬(false=true) by decide)] at H;exact H
        clear H
        have H:=H1
        clear H1
        by_cases c14:t221 < 128
        ·rw [if_pos c14] at H
         have c14b0:decide (t221 < 128)=true:=decide_eq_true c14
         clear c14
         simp only [Option.some.injEq,Prod.mk.injEq] at H
         obtain ⟨rfl,rfl,rfl,rfl⟩:=H
         go_wp2
         go_ret
         exact ⟨by first|rfl|(simp [errW_none]<;>rfl)|(simp [*]<;>rfl),by repeat (first|(with_reducible first|exact HI0.out|apply IsS115.alloc|apply IsS115.drewN|apply IsS115.drew|apply IsS115.set_0|apply IsS115.set_1|apply IsS115.set_2)|exact HI0.out),by repeat (first|(with_reducible first|exact HB.out|apply below_alloc|apply pw_below_drewN|apply below_drew1|refine below_set ?_ (IsS115.ge HI0.out))|exact HB.out),by repeat (first|(with_reducible first|exact HK.out|apply KeepBut.set_|apply keep_drewN|apply keep_drew|apply keep_alloc)|exact HK.out)⟩
        ·rw [if_neg c14] at H
         have c14b0:decide (t221 < 128)=false:=decide_eq_false c14
         clear c14
         have H':=Aside0.mk H
         clear H
         go_wp2
         go_roundg kj4
         case measure=>have:=HK1.out;have:=HJ4.out;omega
         case rel=>exact ⟨(wrap64 (x3_1+(wrap64 ((Int.tmod t221 128)*x4_1)))),(wrap64 (x4_1*128)),(wrap64 (x5_1+1)),(t222),(t223),(t224),(by first|rfl|(simp;done)|(simp [*];done)),(by first|rfl|(simp;done)|(simp [*];done)),(by first|rfl|(simp;done)|(simp [*];done)),H',⟨by have:=HK1.out;have:=HJ4.out;omega⟩,⟨by repeat (first|(with_reducible first|exact HI0.out|apply IsS115.alloc|apply IsS115.drewN|apply IsS115.drew|apply IsS115.set_0|apply IsS115.set_1|apply IsS115.set_2)|exact HI0.out)⟩,⟨by repeat (first|(with_reducible first|exact HK.out|apply KeepBut.set_|apply keep_drewN|apply keep_drew|apply keep_alloc)|exact HK.out)⟩,⟨by repeat (first|(with_reducible first|exact HB.out|apply below_alloc|apply pw_below_drewN|apply below_drew1|refine below_set ?_ (IsS115.ge HI0.out))|exact HB.out)⟩⟩
    ·rw [if_neg c4] at H
     have c4b0:(t224 == 0)=false:=beq_eq_false_iff_ne.mpr c4
     have c4b1:(t224 != 0)=true:=bne_iff_ne.mpr c4
     simp only [Option.some.injEq,Prod.mk.injEq] at H
     obtain ⟨rfl,rfl,rfl,rfl⟩:=H
     go_wp2_with (first|((with_reducible refine gate_callee (f:=83) rfl ?_);refine goesL_ (some 12) rfl rfl Tryd.func83 (by kernel_rfl) rfl #[.pointer (some ⟨g,0,none⟩)] rfl (by (try simp only [List.map_toArray,List.map_cons,List.map_nil]);try rfl) ?_;(with_reducible refine (barqueref01_Reader_Byte.calls g x1000_1 x1001_1 x1002_1 t221 t222 t223 t224 w0 _ ?side1 ?side2 A3.out).mono ?_);(case side1=>repeat (first|(with_reducible first|exact HI0.out|apply IsS115.alloc|apply IsS115.drewN|apply IsS115.drew|apply IsS115.set_0|apply IsS115.set_1|apply IsS115.set_2)|exact HI0.out));(case side2=>repeat (first|(with_reducible first|exact HB.out|apply below_alloc|apply pw_below_drewN|apply below_drew1|refine below_set ?_ (IsS115.ge HI0.out))|exact HB.out));rintro e w15 ⟨rfl,hi,hb,hk⟩;refine ⟨_,rfl,?_⟩;have n0_:=Aside0.mk (KeepBut.trans (by repeat (first|(with_reducible first|exact HK.out|apply KeepBut.set_|apply keep_drewN|apply keep_drew|apply keep_alloc)|exact HK.out)) hk (.inl rfl));have n1_:=Aside0.mk (hb);have n2_:=Aside0.mk (hi);clear HK;clear HB;clear HI0;have HK:=n0_;have HB:=n1_;have HI0:=n2_;clear n0_ n1_ n2_;obtain ⟨HGz16,hgz16⟩:=HI0.out;have hcz16_0:=cellS115_0 HGz16;have hcz16_1:=cellS115_1 HGz16;have hcz16_2:=cellS115_2 HGz16;have hfz16_0:=blk_frozen HGz16 0;have hfz16_1:=blk_frozen HGz16 1;have hfz16_2:=blk_frozen HGz16 2;clear HGz16 hgz16))
     go_ret
     exact ⟨by first|rfl|(simp [errW_none]<;>rfl)|(simp [*]<;>rfl),by repeat (first|(with_reducible first|exact HI0.out|apply IsS115.alloc|apply IsS115.drewN|apply IsS115.drew|apply IsS115.set_0|apply IsS115.set_1|apply IsS115.set_2)|exact HI0.out),by repeat (first|(with_reducible first|exact HB.out|apply below_alloc|apply pw_below_drewN|apply below_drew1|refine below_set ?_ (IsS115.ge HI0.out))|exact HB.out),by repeat (first|(with_reducible first|exact HK.out|apply KeepBut.set_|apply keep_drewN|apply keep_drew|apply keep_alloc)|exact HK.out)⟩
   ·rw [if_neg c2] at H
    have c2b0:decide (x5_1 < 9)=false:=decide_eq_false c2
    clear c2
    simp only [Option.some.injEq,Prod.mk.injEq] at H
    obtain ⟨rfl,rfl,rfl,rfl⟩:=H
    go_wp2
    go_ret
    exact ⟨by first|rfl|(simp [errW_none]<;>rfl)|(simp [*]<;>rfl),by repeat (first|(with_reducible first|exact HI0.out|apply IsS115.alloc|apply IsS115.drewN|apply IsS115.drew|apply IsS115.set_0|apply IsS115.set_1|apply IsS115.set_2)|exact HI0.out),by repeat (first|(with_reducible first|exact HB.out|apply below_alloc|apply pw_below_drewN|apply below_drew1|refine below_set ?_ (IsS115.ge HI0.out))|exact HB.out),by repeat (first|(with_reducible first|exact HK.out|apply KeepBut.set_|apply keep_drewN|apply keep_drew|apply keep_alloc)|exact HK.out)⟩
end Go.Proofs.YthejnffhfmdpnaaDoor.Q

end

section
namespace Go.Proofs.YthejnffhfmdpnaaDoor.Q
open Go.RowKit Go.Proofs.YthejnffhfmdpnaaDoorW.PrintWords Go.Proofs.YthejnffhfmdpnaaDoorW.PrintLast Go.Proofs.YthejnffhfmdpnaaDoorW.PrintMore
attribute [local go_sem] min2_int min_two
set_option linter.unusedVariables false
set_option linter.unusedSimpArgs false
def barqueref01_Reader_Count.f (k:Nat) (s0_0:ByteArray) (s0_1:Int) (s0_2:Int) (a1:Int):Option (Int × ByteArray × Int × Int):=(barqueref01_Reader_Num.f k s0_0 s0_1 s0_2).bind fun bt225=>(if bt225.2.2.2=0 then (if bt225.1 > a1 then (some (0,bt225.2.1,bt225.2.2.1,4)) else (some (bt225.1,bt225.2.1,bt225.2.2.1,bt225.2.2.2))) else (some (bt225.1,bt225.2.1,bt225.2.2.1,bt225.2.2.2)))
set_option maxHeartbeats 8000000 in
set_option maxRecDepth 100000 in
theorem barqueref01_Reader_Count.calls (k:Nat) (g:Nat) (s0_0:ByteArray) (s0_1:Int) (s0_2:Int) (a1:Int) (r1:Int) (r2:ByteArray) (r3:Int) (r4:Int) (w0 w:World) (hI:IsS115 w0 w g s0_0 s0_1 s0_2) (hB:Below w0.heap.size w0 w) (h:barqueref01_Reader_Count.f k s0_0 s0_1 s0_2 a1=some (r1,r2,r3,r4)):
  Calls Tryd.prog 67 #[.pointer (some ⟨g,0,none⟩), .int .i64 a1] w fun e w'=>e= .returned (.int .i64 r1)∧IsS115 w0 w' g r2 r3 r4∧Below w0.heap.size w0 w'∧KeepBut w w' g none:=by
 have HI0:=Aside0.mk hI
 have HK:=Aside0.mk (KeepBut.refl w g none)
 have HL:=Aside0.mk hB.size
 clear hI
 have HW0:=Aside0.mk hB.size
 have HB:=Aside0.mk hB
 clear hB
 have H:((barqueref01_Reader_Num.f k s0_0 s0_1 s0_2).bind fun bt225=>(if bt225.2.2.2=0 then (if bt225.1 > a1 then (some (0,bt225.2.1,bt225.2.2.1,4)) else (some (bt225.1,bt225.2.1,bt225.2.2.1,bt225.2.2.2))) else (some (bt225.1,bt225.2.1,bt225.2.2.1,bt225.2.2.2))))=some (r1,r2,r3,r4):=h
 clear h
 replace H:=Option.bind_eq_some_iff.mp H
 obtain ⟨⟨t225,t226,t227,t228⟩,A30,H⟩:=H
 replace H:(if t228=0 then (if t225 > a1 then (some (0,t226,t227,4)) else (some (t225,t226,t227,t228))) else (some (t225,t226,t227,t228)))=some (r1,r2,r3,r4):=H
 have A3:=Aside0.mk A30
 clear A30
 by_cases c4:t228=0
 ·rw [if_pos c4] at H
  have c4b0:(t228 == 0)=true:=beq_iff_eq.mpr c4
  have c4b1:(t228 != 0)=false:=bne_eq_false_iff_eq.mpr c4
  clear c4
  by_cases c5:t225 > a1
  ·rw [if_pos c5] at H
   have c5b0:decide (a1 < t225)=true:=decide_eq_true c5
   clear c5
   simp only [Option.some.injEq,Prod.mk.injEq] at H
   obtain ⟨rfl,rfl,rfl,rfl⟩:=H
   go_enter Tryd.func67,Tryd.ntmps67
   go_wp2_with (first|((with_reducible refine gate_callee (f:=69) rfl ?_);refine goesL_ (some 7) rfl rfl Tryd.func69 (by kernel_rfl) rfl #[.pointer (some ⟨g,0,none⟩)] rfl (by (try simp only [List.map_toArray,List.map_cons,List.map_nil]);try rfl) ?_;(with_reducible refine (barqueref01_Reader_Num.calls k g s0_0 s0_1 s0_2 t225 t226 t227 t228 w0 _ ?side1 ?side2 A3.out).mono ?_);(case side1=>repeat (first|(with_reducible first|exact HI0.out|apply IsS115.alloc|apply IsS115.drewN|apply IsS115.drew|apply IsS115.set_0|apply IsS115.set_1|apply IsS115.set_2)|exact HI0.out));(case side2=>repeat (first|(with_reducible first|exact HB.out|apply below_alloc|apply pw_below_drewN|apply below_drew1|refine below_set ?_ (IsS115.ge HI0.out))|exact HB.out));rintro e w6 ⟨rfl,hi,hb,hk⟩;refine ⟨_,rfl,?_⟩;have n0_:=Aside0.mk (KeepBut.trans (by repeat (first|(with_reducible first|exact HK.out|apply KeepBut.set_|apply keep_drewN|apply keep_drew|apply keep_alloc)|exact HK.out)) hk (.inl rfl));have n1_:=Aside0.mk (hb);have n2_:=Aside0.mk (hi);clear HK;clear HB;clear HI0;have HK:=n0_;have HB:=n1_;have HI0:=n2_;clear n0_ n1_ n2_;obtain ⟨HGz7,hgz7⟩:=HI0.out;have hcz7_0:=cellS115_0 HGz7;have hcz7_1:=cellS115_1 HGz7;have hcz7_2:=cellS115_2 HGz7;have hfz7_0:=blk_frozen HGz7 0;have hfz7_1:=blk_frozen HGz7 1;have hfz7_2:=blk_frozen HGz7 2;clear HGz7 hgz7))
   go_ret
   exact ⟨by first|rfl|(simp [errW_none]<;>rfl)|(simp [*]<;>rfl),by repeat (first|(with_reducible first|exact HI0.out|apply IsS115.alloc|apply IsS115.drewN|apply IsS115.drew|apply IsS115.set_0|apply IsS115.set_1|apply IsS115.set_2)|exact HI0.out),by repeat (first|(with_reducible first|exact HB.out|apply below_alloc|apply pw_below_drewN|apply below_drew1|refine below_set ?_ (IsS115.ge HI0.out))|exact HB.out),by repeat (first|(with_reducible first|exact HK.out|apply KeepBut.set_|apply keep_drewN|apply keep_drew|apply keep_alloc)|exact HK.out)⟩
  ·rw [if_neg c5] at H
   have c5b0:decide (a1 < t225)=false:=decide_eq_false c5
   clear c5
   simp only [Option.some.injEq,Prod.mk.injEq] at H
   obtain ⟨rfl,rfl,rfl,rfl⟩:=H
   go_enter Tryd.func67,Tryd.ntmps67
   go_wp2_with (first|((with_reducible refine gate_callee (f:=69) rfl ?_);refine goesL_ (some 7) rfl rfl Tryd.func69 (by kernel_rfl) rfl #[.pointer (some ⟨g,0,none⟩)] rfl (by (try simp only [List.map_toArray,List.map_cons,List.map_nil]);try rfl) ?_;(with_reducible refine (barqueref01_Reader_Num.calls k g s0_0 s0_1 s0_2 t225 t226 t227 t228 w0 _ ?side1 ?side2 A3.out).mono ?_);(case side1=>repeat (first|(with_reducible first|exact HI0.out|apply IsS115.alloc|apply IsS115.drewN|apply IsS115.drew|apply IsS115.set_0|apply IsS115.set_1|apply IsS115.set_2)|exact HI0.out));(case side2=>repeat (first|(with_reducible first|exact HB.out|apply below_alloc|apply pw_below_drewN|apply below_drew1|refine below_set ?_ (IsS115.ge HI0.out))|exact HB.out));rintro e w8 ⟨rfl,hi,hb,hk⟩;refine ⟨_,rfl,?_⟩;have n0_:=Aside0.mk (KeepBut.trans (by repeat (first|(with_reducible first|exact HK.out|apply KeepBut.set_|apply keep_drewN|apply keep_drew|apply keep_alloc)|exact HK.out)) hk (.inl rfl));have n1_:=Aside0.mk (hb);have n2_:=Aside0.mk (hi);clear HK;clear HB;clear HI0;have HK:=n0_;have HB:=n1_;have HI0:=n2_;clear n0_ n1_ n2_;obtain ⟨HGz9,hgz9⟩:=HI0.out;have hcz9_0:=cellS115_0 HGz9;have hcz9_1:=cellS115_1 HGz9;have hcz9_2:=cellS115_2 HGz9;have hfz9_0:=blk_frozen HGz9 0;have hfz9_1:=blk_frozen HGz9 1;have hfz9_2:=blk_frozen HGz9 2;clear HGz9 hgz9))
   go_ret
   exact ⟨by first|rfl|(simp [errW_none]<;>rfl)|(simp [*]<;>rfl),by repeat (first|(with_reducible first|exact HI0.out|apply IsS115.alloc|apply IsS115.drewN|apply IsS115.drew|apply IsS115.set_0|apply IsS115.set_1|apply IsS115.set_2)|exact HI0.out),by repeat (first|(with_reducible first|exact HB.out|apply below_alloc|apply pw_below_drewN|apply below_drew1|refine below_set ?_ (IsS115.ge HI0.out))|exact HB.out),by repeat (first|(with_reducible first|exact HK.out|apply KeepBut.set_|apply keep_drewN|apply keep_drew|apply keep_alloc)|exact HK.out)⟩
 ·rw [if_neg c4] at H
  have c4b0:(t228 == 0)=false:=beq_eq_false_iff_ne.mpr c4
  have c4b1:(t228 != 0)=true:=bne_iff_ne.mpr c4
  simp only [Option.some.injEq,Prod.mk.injEq] at H
  obtain ⟨rfl,rfl,rfl,rfl⟩:=H
  go_enter Tryd.func67,Tryd.ntmps67
  go_wp2_with (first|((with_reducible refine gate_callee (f:=69) rfl ?_);refine goesL_ (some 7) rfl rfl Tryd.func69 (by kernel_rfl) rfl #[.pointer (some ⟨g,0,none⟩)] rfl (by (try simp only [List.map_toArray,List.map_cons,List.map_nil]);try rfl) ?_;(with_reducible refine (barqueref01_Reader_Num.calls k g s0_0 s0_1 s0_2 t225 t226 t227 t228 w0 _ ?side1 ?side2 A3.out).mono ?_);(case side1=>repeat (first|(with_reducible first|exact HI0.out|apply IsS115.alloc|apply IsS115.drewN|apply IsS115.drew|apply IsS115.set_0|apply IsS115.set_1|apply IsS115.set_2)|exact HI0.out));(case side2=>repeat (first|(with_reducible first|exact HB.out|apply below_alloc|apply pw_below_drewN|apply below_drew1|refine below_set ?_ (IsS115.ge HI0.out))|exact HB.out));rintro e w10 ⟨rfl,hi,hb,hk⟩;refine ⟨_,rfl,?_⟩;have n0_:=Aside0.mk (KeepBut.trans (by repeat (first|(with_reducible first|exact HK.out|apply KeepBut.set_|apply keep_drewN|apply keep_drew|apply keep_alloc)|exact HK.out)) hk (.inl rfl));have n1_:=Aside0.mk (hb);have n2_:=Aside0.mk (hi);clear HK;clear HB;clear HI0;have HK:=n0_;have HB:=n1_;have HI0:=n2_;clear n0_ n1_ n2_;obtain ⟨HGz11,hgz11⟩:=HI0.out;have hcz11_0:=cellS115_0 HGz11;have hcz11_1:=cellS115_1 HGz11;have hcz11_2:=cellS115_2 HGz11;have hfz11_0:=blk_frozen HGz11 0;have hfz11_1:=blk_frozen HGz11 1;have hfz11_2:=blk_frozen HGz11 2;clear HGz11 hgz11))
  go_ret
  exact ⟨by first|rfl|(simp [errW_none]<;>rfl)|(simp [*]<;>rfl),by repeat (first|(with_reducible first|exact HI0.out|apply IsS115.alloc|apply IsS115.drewN|apply IsS115.drew|apply IsS115.set_0|apply IsS115.set_1|apply IsS115.set_2)|exact HI0.out),by repeat (first|(with_reducible first|exact HB.out|apply below_alloc|apply pw_below_drewN|apply below_drew1|refine below_set ?_ (IsS115.ge HI0.out))|exact HB.out),by repeat (first|(with_reducible first|exact HK.out|apply KeepBut.set_|apply keep_drewN|apply keep_drew|apply keep_alloc)|exact HK.out)⟩
end Go.Proofs.YthejnffhfmdpnaaDoor.Q

end

section
namespace Go.Proofs.YthejnffhfmdpnaaDoor.Q
open Go.RowKit Go.Proofs.YthejnffhfmdpnaaDoorW.PrintWords Go.Proofs.YthejnffhfmdpnaaDoorW.PrintLast Go.Proofs.YthejnffhfmdpnaaDoorW.PrintMore
attribute [local go_sem] min2_int min_two
set_option linter.unusedVariables false
set_option linter.unusedSimpArgs false
def barqueref01_Reader_Raw.f (s0_0:ByteArray) (s0_1:Int) (s0_2:Int) (a1:Int):Option (ByteArray × ByteArray × Int × Int):=if s0_2=0 then (if a1 < 0 then (some ((⟨#[]⟩:ByteArray),s0_0,s0_1,1)) else (if a1 > (wrap64 ((s0_0.size:Int) - s0_1)) then (some ((⟨#[]⟩:ByteArray),s0_0,s0_1,3)) else (if 0≤(wrap64 ((wrap64 (s0_1+a1)) - a1)) then (if (wrap64 ((wrap64 (s0_1+a1)) - a1))≤(wrap64 (s0_1+a1)) then (if (wrap64 (s0_1+a1))≤(s0_0.size:Int) then (some (s0_0.extract ((wrap64 ((wrap64 (s0_1+a1)) - a1)):Int).toNat ((wrap64 (s0_1+a1)):Int).toNat,s0_0,wrap64 (s0_1+a1),s0_2)) else (none)) else (none)) else (none)))) else (some ((⟨#[]⟩:ByteArray),s0_0,s0_1,s0_2))
set_option maxHeartbeats 8000000 in
set_option maxRecDepth 100000 in
theorem barqueref01_Reader_Raw.calls (g:Nat) (s0_0:ByteArray) (s0_1:Int) (s0_2:Int) (a1:Int) (r1:ByteArray) (r2:ByteArray) (r3:Int) (r4:Int) (w0 w:World) (hI:IsS115 w0 w g s0_0 s0_1 s0_2) (hB:Below w0.heap.size w0 w) (h:barqueref01_Reader_Raw.f s0_0 s0_1 s0_2 a1=some (r1,r2,r3,r4)):
  Calls Tryd.prog 82 #[.pointer (some ⟨g,0,none⟩), .int .i64 a1] w fun e w'=>e= .returned (.string r1)∧IsS115 w0 w' g r2 r3 r4∧Below w0.heap.size w0 w'∧KeepBut w w' g none:=by
 have HI0:=Aside0.mk hI
 have HK:=Aside0.mk (KeepBut.refl w g none)
 have HL:=Aside0.mk hB.size
 clear hI
 have HW0:=Aside0.mk hB.size
 have HB:=Aside0.mk hB
 clear hB
 have H:(if s0_2=0 then (if a1 < 0 then (some ((⟨#[]⟩:ByteArray),s0_0,s0_1,1)) else (if a1 > (wrap64 ((s0_0.size:Int) - s0_1)) then (some ((⟨#[]⟩:ByteArray),s0_0,s0_1,3)) else (if 0≤(wrap64 ((wrap64 (s0_1+a1)) - a1)) then (if (wrap64 ((wrap64 (s0_1+a1)) - a1))≤(wrap64 (s0_1+a1)) then (if (wrap64 (s0_1+a1))≤(s0_0.size:Int) then (some (s0_0.extract ((wrap64 ((wrap64 (s0_1+a1)) - a1)):Int).toNat ((wrap64 (s0_1+a1)):Int).toNat,s0_0,wrap64 (s0_1+a1),s0_2)) else (none)) else (none)) else (none)))) else (some ((⟨#[]⟩:ByteArray),s0_0,s0_1,s0_2)))=some (r1,r2,r3,r4):=h
 clear h
 by_cases c3:s0_2=0
 ·rw [if_pos c3] at H
  have c3b0:(s0_2 == 0)=true:=beq_iff_eq.mpr c3
  have c3b1:(s0_2 != 0)=false:=bne_eq_false_iff_eq.mpr c3
  clear c3
  by_cases c4:a1 < 0
  ·rw [if_pos c4] at H
   have c4b0:decide (a1 < 0)=true:=decide_eq_true c4
   clear c4
   simp only [Option.some.injEq,Prod.mk.injEq] at H
   obtain ⟨rfl,rfl,rfl,rfl⟩:=H
   obtain ⟨HGz5,hgz5⟩:=HI0.out
   have hcz5_0:=cellS115_0 HGz5
   have hcz5_1:=cellS115_1 HGz5
   have hcz5_2:=cellS115_2 HGz5
   have hfz5_0:=blk_frozen HGz5 0
   have hfz5_1:=blk_frozen HGz5 1
   have hfz5_2:=blk_frozen HGz5 2
   clear HGz5 hgz5
   go_enter Tryd.func82,Tryd.ntmps82
   go_wp2
   repeat (go_quiet (fail);try go_wp2)
   go_ret
   exact ⟨by first|rfl|(simp [errW_none]<;>rfl)|(simp [*]<;>rfl),by repeat (first|(with_reducible first|exact HI0.out|apply IsS115.alloc|apply IsS115.drewN|apply IsS115.drew|apply IsS115.set_0|apply IsS115.set_1|apply IsS115.set_2)|exact HI0.out),by repeat (first|(with_reducible first|exact HB.out|apply below_alloc|apply pw_below_drewN|apply below_drew1|refine below_set ?_ (IsS115.ge HI0.out))|exact HB.out),by repeat (first|(with_reducible first|exact HK.out|apply KeepBut.set_|apply keep_drewN|apply keep_drew|apply keep_alloc)|exact HK.out)⟩
  ·rw [if_neg c4] at H
   have c4b0:decide (a1 < 0)=false:=decide_eq_false c4
   clear c4
   by_cases c6:a1 > (wrap64 ((s0_0.size:Int) - s0_1))
   ·rw [if_pos c6] at H
    have c6b0:decide ((wrap64 ((s0_0.size:Int) - s0_1)) < a1)=true:=decide_eq_true c6
    clear c6
    simp only [Option.some.injEq,Prod.mk.injEq] at H
    obtain ⟨rfl,rfl,rfl,rfl⟩:=H
    obtain ⟨HGz7,hgz7⟩:=HI0.out
    have hcz7_0:=cellS115_0 HGz7
    have hcz7_1:=cellS115_1 HGz7
    have hcz7_2:=cellS115_2 HGz7
    have hfz7_0:=blk_frozen HGz7 0
    have hfz7_1:=blk_frozen HGz7 1
    have hfz7_2:=blk_frozen HGz7 2
    clear HGz7 hgz7
    go_enter Tryd.func82,Tryd.ntmps82
    go_wp2
    repeat (go_quiet (fail);try go_wp2)
    go_ret
    exact ⟨by first|rfl|(simp [errW_none]<;>rfl)|(simp [*]<;>rfl),by repeat (first|(with_reducible first|exact HI0.out|apply IsS115.alloc|apply IsS115.drewN|apply IsS115.drew|apply IsS115.set_0|apply IsS115.set_1|apply IsS115.set_2)|exact HI0.out),by repeat (first|(with_reducible first|exact HB.out|apply below_alloc|apply pw_below_drewN|apply below_drew1|refine below_set ?_ (IsS115.ge HI0.out))|exact HB.out),by repeat (first|(with_reducible first|exact HK.out|apply KeepBut.set_|apply keep_drewN|apply keep_drew|apply keep_alloc)|exact HK.out)⟩
   ·rw [if_neg c6] at H
    have c6b0:decide ((wrap64 ((s0_0.size:Int) - s0_1)) < a1)=false:=decide_eq_false c6
    clear c6
    obtain ⟨ji8,hji8⟩: ∃j_:Int,(wrap64 ((wrap64 (s0_1+a1)) - a1))=j_:=⟨_,rfl⟩
    replace H:(if 0≤(ji8) then (if (ji8)≤(wrap64 (s0_1+a1)) then (if (wrap64 (s0_1+a1))≤(s0_0.size:Int) then (some (s0_0.extract ((ji8):Int).toNat ((wrap64 (s0_1+a1)):Int).toNat,s0_0,wrap64 (s0_1+a1),s0_2)) else (none)) else (none)) else (none))=some (r1,r2,r3,r4):=by first|(rw [hji8] at H;exact H)|(simp only [hji8] at H ⊢;exact H)
    have hji8w:(IntKind.i64.wrap ((wrap64 (s0_1+a1)) - a1))=ji8:=(i64_w _).trans hji8
    by_cases c9:0≤(ji8)
    ·rw [if_pos c9] at H
     have c9b0:=eq_true c9
     have c9b1:decide (0≤(ji8))=true:=decide_eq_true c9
     clear c9
     by_cases c10:(ji8)≤(wrap64 (s0_1+a1))
     ·rw [if_pos c10] at H
      have c10b0:=eq_true c10
      have c10b1:decide ((ji8)≤(wrap64 (s0_1+a1)))=true:=decide_eq_true c10
      by_cases c11:(wrap64 (s0_1+a1))≤(s0_0.size:Int)
      ·rw [if_pos c11] at H
       have c11b0:=eq_true c11
       have c11b1:decide ((wrap64 (s0_1+a1))≤(s0_0.size:Int))=true:=decide_eq_true c11
       simp only [Option.some.injEq,Prod.mk.injEq] at H
       obtain ⟨rfl,rfl,rfl,rfl⟩:=H
       obtain ⟨HGz12,hgz12⟩:=HI0.out
       have hcz12_0:=cellS115_0 HGz12
       have hcz12_1:=cellS115_1 HGz12
       have hcz12_2:=cellS115_2 HGz12
       have hfz12_0:=blk_frozen HGz12 0
       have hfz12_1:=blk_frozen HGz12 1
       have hfz12_2:=blk_frozen HGz12 2
       clear HGz12 hgz12
       go_enter Tryd.func82,Tryd.ntmps82
       go_wp2
       repeat (go_quiet (fail);try go_wp2)
       go_ret
       exact ⟨by first|rfl|(simp [errW_none]<;>rfl)|(simp only [← hji8];first|rfl|(simp [errW_none]<;>rfl))|(simp [*]<;>rfl),by repeat (first|(with_reducible first|exact HI0.out|apply IsS115.alloc|apply IsS115.drewN|apply IsS115.drew|apply IsS115.set_0|apply IsS115.set_1|apply IsS115.set_2)|exact HI0.out),by repeat (first|(with_reducible first|exact HB.out|apply below_alloc|apply pw_below_drewN|apply below_drew1|refine below_set ?_ (IsS115.ge HI0.out))|exact HB.out),by repeat (first|(with_reducible first|exact HK.out|apply KeepBut.set_|apply keep_drewN|apply keep_drew|apply keep_alloc)|exact HK.out)⟩
      ·rw [if_neg c11] at H
       exact absurd H (by simp)
     ·rw [if_neg c10] at H
      exact absurd H (by simp)
    ·rw [if_neg c9] at H
     exact absurd H (by simp)
 ·rw [if_neg c3] at H
  have c3b0:(s0_2 == 0)=false:=beq_eq_false_iff_ne.mpr c3
  have c3b1:(s0_2 != 0)=true:=bne_iff_ne.mpr c3
  simp only [Option.some.injEq,Prod.mk.injEq] at H
  obtain ⟨rfl,rfl,rfl,rfl⟩:=H
  obtain ⟨HGz13,hgz13⟩:=HI0.out
  have hcz13_0:=cellS115_0 HGz13
  have hcz13_1:=cellS115_1 HGz13
  have hcz13_2:=cellS115_2 HGz13
  have hfz13_0:=blk_frozen HGz13 0
  have hfz13_1:=blk_frozen HGz13 1
  have hfz13_2:=blk_frozen HGz13 2
  clear HGz13 hgz13
  go_enter Tryd.func82,Tryd.ntmps82
  go_wp2
  repeat (go_quiet (fail);try go_wp2)
  go_ret
  exact ⟨by first|rfl|(simp [errW_none]<;>rfl)|(simp [*]<;>rfl),by repeat (first|(with_reducible first|exact HI0.out|apply IsS115.alloc|apply IsS115.drewN|apply IsS115.drew|apply IsS115.set_0|apply IsS115.set_1|apply IsS115.set_2)|exact HI0.out),by repeat (first|(with_reducible first|exact HB.out|apply below_alloc|apply pw_below_drewN|apply below_drew1|refine below_set ?_ (IsS115.ge HI0.out))|exact HB.out),by repeat (first|(with_reducible first|exact HK.out|apply KeepBut.set_|apply keep_drewN|apply keep_drew|apply keep_alloc)|exact HK.out)⟩
end Go.Proofs.YthejnffhfmdpnaaDoor.Q

end

section
namespace Go.Proofs.YthejnffhfmdpnaaDoor.Q
open Go.RowKit Go.Proofs.YthejnffhfmdpnaaDoorW.PrintWords Go.Proofs.YthejnffhfmdpnaaDoorW.PrintLast Go.Proofs.YthejnffhfmdpnaaDoorW.PrintMore
attribute [local go_sem] min2_int min_two
set_option linter.unusedVariables false
set_option linter.unusedSimpArgs false
def barqueref01_Reader_Text.f (k:Nat) (s0_0:ByteArray) (s0_1:Int) (s0_2:Int) (a1:Int):Option (ByteArray × ByteArray × Int × Int):=(barqueref01_Reader_Count.f k s0_0 s0_1 s0_2 a1).bind fun bt229=>((barqueref01_Reader_Raw.f bt229.2.1 bt229.2.2.1 bt229.2.2.2 bt229.1).bind fun bt233=>(some (bt233.1,bt233.2.1,bt233.2.2.1,bt233.2.2.2)))
set_option maxHeartbeats 8000000 in
set_option maxRecDepth 100000 in
theorem barqueref01_Reader_Text.calls (k:Nat) (g:Nat) (s0_0:ByteArray) (s0_1:Int) (s0_2:Int) (a1:Int) (r1:ByteArray) (r2:ByteArray) (r3:Int) (r4:Int) (w0 w:World) (hI:IsS115 w0 w g s0_0 s0_1 s0_2) (hB:Below w0.heap.size w0 w) (h:barqueref01_Reader_Text.f k s0_0 s0_1 s0_2 a1=some (r1,r2,r3,r4)):
  Calls Tryd.prog 68 #[.pointer (some ⟨g,0,none⟩), .int .i64 a1] w fun e w'=>e= .returned (.string r1)∧IsS115 w0 w' g r2 r3 r4∧Below w0.heap.size w0 w'∧KeepBut w w' g none:=by
 have HI0:=Aside0.mk hI
 have HK:=Aside0.mk (KeepBut.refl w g none)
 have HL:=Aside0.mk hB.size
 clear hI
 have HW0:=Aside0.mk hB.size
 have HB:=Aside0.mk hB
 clear hB
 have H:((barqueref01_Reader_Count.f k s0_0 s0_1 s0_2 a1).bind fun bt229=>((barqueref01_Reader_Raw.f bt229.2.1 bt229.2.2.1 bt229.2.2.2 bt229.1).bind fun bt233=>(some (bt233.1,bt233.2.1,bt233.2.2.1,bt233.2.2.2))))=some (r1,r2,r3,r4):=h
 clear h
 replace H:=Option.bind_eq_some_iff.mp H
 obtain ⟨⟨t229,t230,t231,t232⟩,A30,H⟩:=H
 replace H:((barqueref01_Reader_Raw.f t230 t231 t232 t229).bind fun bt233=>(some (bt233.1,bt233.2.1,bt233.2.2.1,bt233.2.2.2)))=some (r1,r2,r3,r4):=H
 have A3:=Aside0.mk A30
 clear A30
 replace H:=Option.bind_eq_some_iff.mp H
 obtain ⟨⟨t233,t234,t235,t236⟩,A40,H⟩:=H
 replace H:(some (t233,t234,t235,t236))=some (r1,r2,r3,r4):=H
 have A4:=Aside0.mk A40
 clear A40
 simp only [Option.some.injEq,Prod.mk.injEq] at H
 obtain ⟨rfl,rfl,rfl,rfl⟩:=H
 go_enter Tryd.func68,Tryd.ntmps68
 go_wp2_with (first|((with_reducible refine gate_callee (f:=67) rfl ?_);refine goesL_ (some 8) rfl rfl Tryd.func67 (by kernel_rfl) rfl #[.pointer (some ⟨g,0,none⟩), .int .i64 a1] rfl (by (try simp only [List.map_toArray,List.map_cons,List.map_nil]);try rfl) ?_;(with_reducible refine (barqueref01_Reader_Count.calls k g s0_0 s0_1 s0_2 a1 t229 t230 t231 t232 w0 _ ?side1 ?side2 A3.out).mono ?_);(case side1=>repeat (first|(with_reducible first|exact HI0.out|apply IsS115.alloc|apply IsS115.drewN|apply IsS115.drew|apply IsS115.set_0|apply IsS115.set_1|apply IsS115.set_2)|exact HI0.out));(case side2=>repeat (first|(with_reducible first|exact HB.out|apply below_alloc|apply pw_below_drewN|apply below_drew1|refine below_set ?_ (IsS115.ge HI0.out))|exact HB.out));rintro e w5 ⟨rfl,hi,hb,hk⟩;refine ⟨_,rfl,?_⟩;have n0_:=Aside0.mk (KeepBut.trans (by repeat (first|(with_reducible first|exact HK.out|apply KeepBut.set_|apply keep_drewN|apply keep_drew|apply keep_alloc)|exact HK.out)) hk (.inl rfl));have n1_:=Aside0.mk (hb);have n2_:=Aside0.mk (hi);clear HK;clear HB;clear HI0;have HK:=n0_;have HB:=n1_;have HI0:=n2_;clear n0_ n1_ n2_)|((with_reducible refine gate_callee (f:=82) rfl ?_);refine goesL_ (some 11) rfl rfl Tryd.func82 (by kernel_rfl) rfl #[.pointer (some ⟨g,0,none⟩), .int .i64 t229] rfl (by (try simp only [List.map_toArray,List.map_cons,List.map_nil]);try rfl) ?_;(with_reducible refine (barqueref01_Reader_Raw.calls g t230 t231 t232 t229 t233 t234 t235 t236 w0 _ ?side1 ?side2 A4.out).mono ?_);(case side1=>repeat (first|(with_reducible first|exact HI0.out|apply IsS115.alloc|apply IsS115.drewN|apply IsS115.drew|apply IsS115.set_0|apply IsS115.set_1|apply IsS115.set_2)|exact HI0.out));(case side2=>repeat (first|(with_reducible first|exact HB.out|apply below_alloc|apply pw_below_drewN|apply below_drew1|refine below_set ?_ (IsS115.ge HI0.out))|exact HB.out));rintro e w6 ⟨rfl,hi,hb,hk⟩;refine ⟨_,rfl,?_⟩;have n0_:=Aside0.mk (KeepBut.trans (by repeat (first|(with_reducible first|exact HK.out|apply KeepBut.set_|apply keep_drewN|apply keep_drew|apply keep_alloc)|exact HK.out)) hk (.inl rfl));have n1_:=Aside0.mk (hb);have n2_:=Aside0.mk (hi);clear HK;clear HB;clear HI0;have HK:=n0_;have HB:=n1_;have HI0:=n2_;clear n0_ n1_ n2_))
 go_ret
 exact ⟨by first|rfl|(simp [errW_none]<;>rfl)|(simp [*]<;>rfl),by repeat (first|(with_reducible first|exact HI0.out|apply IsS115.alloc|apply IsS115.drewN|apply IsS115.drew|apply IsS115.set_0|apply IsS115.set_1|apply IsS115.set_2)|exact HI0.out),by repeat (first|(with_reducible first|exact HB.out|apply below_alloc|apply pw_below_drewN|apply below_drew1|refine below_set ?_ (IsS115.ge HI0.out))|exact HB.out),by repeat (first|(with_reducible first|exact HK.out|apply KeepBut.set_|apply keep_drewN|apply keep_drew|apply keep_alloc)|exact HK.out)⟩
end Go.Proofs.YthejnffhfmdpnaaDoor.Q

end
