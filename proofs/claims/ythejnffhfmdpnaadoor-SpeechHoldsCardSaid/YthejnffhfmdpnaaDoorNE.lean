/- Texts of this claim, in one file. -/
import Derived.RegionTactic
import Derived.Deep.LoopGhost
import Derived.Outline
import Derived.Test.YthejnffhfmdpnaaDoorND
section
namespace Go.Proofs.YthejnffhfmdpnaaDoor.Q
open Go.RowKit Go.Proofs.YthejnffhfmdpnaaDoorW.PrintWords Go.Proofs.YthejnffhfmdpnaaDoorW.PrintLast Go.Proofs.YthejnffhfmdpnaaDoorW.PrintMore
attribute [local go_sem] min2_int min_two
set_option linter.unusedVariables false
set_option linter.unusedSimpArgs false
def image_head.l0:Nat→ByteArray→List (S66)→List Int→Int→Int→ByteArray→Int→Int→Option ((List (S66)) × List Int × Int × Int)
 |0,_,_,_,_,_,_,_,_=>none
 |k+1,x0,x7,x8,x16,x17,x343000,x343001,x343002=>if x17 < x16 then ((code_Reader_Text.f k x343000 x343001 x343002 200).bind fun bt347=>((code_Reader_Num.f k bt347.2.1 bt347.2.2.1 bt347.2.2.2).bind fun bt351=>((code_Reader_Count.f k bt351.2.1 bt351.2.2.1 bt351.2.2.2 65536).bind fun bt356=>((code_Reader_Err.f bt356.2.1 bt356.2.2.1 bt356.2.2.2).bind fun bt360=>(if bt360.1=0 then (if x7.length < 3518437208883 then (if x8.length < 17592186044416 then (image_head.l0 k x0 (x7++[(⟨bt347.1,bt351.1,(⟨#[]⟩:ByteArray)⟩:S66)]) (x8++[bt356.1]) x16 (wrap64 (x17+1)) bt360.2.1 bt360.2.2.1 bt360.2.2.2) else (none)) else (none)) else ((code_Reader_Err.f bt360.2.1 bt360.2.2.1 bt360.2.2.2).bind fun bt370=>(some (([]:List (S66)),([]:List Int),0,bt370.1)))))))) else ((code_Reader_Err.f x343000 x343001 x343002).bind fun bt374=>(if bt374.1=0 then ((tree_Check.f k x7).bind fun t378=>(if t378=0 then ((code_Reader_Left.f bt374.2.1 bt374.2.2.1 bt374.2.2.2).bind fun bt379=>(some (x7,x8,wrap64 ((x0.size:Int) - bt379.1),0))) else (some (([]:List (S66)),([]:List Int),0,t378)))) else (some (([]:List (S66)),([]:List Int),0,bt374.1))))
def image_head.f (k:Nat) (a0:ByteArray):Option ((List (S66)) × List Int × Int × Int):=(code_Read.f a0).bind fun bt339=>((code_Reader_Count.f k bt339.1 bt339.2.1 bt339.2.2 256).bind fun bt343=>(image_head.l0 k a0 ([]:List (S66)) ([]:List Int) bt343.1 0 bt343.2.1 bt343.2.2.1 bt343.2.2.2))
set_option maxHeartbeats 8000000 in
set_option maxRecDepth 100000 in
theorem image_head.calls (k:Nat) (a0:ByteArray) (r1:List (S66)) (r2:List Int) (r3:Int) (r4:Int) (w:World) (h:image_head.f k a0=some (r1,r2,r3,r4)):
  Calls Tryd.prog 63 #[.string a0] w fun e w'=> ∃v0_ v1_:Value,e= .returned (.tuple #[v0_,v1_, .int .i64 r3, .int .i64 r4])∧Kd.R k66 66 w' w.heap.size (fun _=>True) v0_ r1∧Kd.R (Kd.int .i64) 3 w' w.heap.size (fun _=>True) v1_ r2∧Below w.heap.size w w':=by
 have hu66:=Tryd.underlying66
 have HB:=Aside0.mk (Below.refl w.heap.size w)
 have H:((code_Read.f a0).bind fun bt339=>((code_Reader_Count.f k bt339.1 bt339.2.1 bt339.2.2 256).bind fun bt343=>(image_head.l0 k a0 ([]:List (S66)) ([]:List Int) bt343.1 0 bt343.2.1 bt343.2.2.1 bt343.2.2.2)))=some (r1,r2,r3,r4):=h
 clear h
 replace H:=Option.bind_eq_some_iff.mp H
 obtain ⟨⟨t339,t340,t341⟩,A20,H⟩:=H
 replace H:((code_Reader_Count.f k t339 t340 t341 256).bind fun bt343=>(image_head.l0 k a0 ([]:List (S66)) ([]:List Int) bt343.1 0 bt343.2.1 bt343.2.2.1 bt343.2.2.2))=some (r1,r2,r3,r4):=H
 have A2:=Aside0.mk A20
 clear A20
 replace H:=Option.bind_eq_some_iff.mp H
 obtain ⟨⟨t343,t344,t345,t346⟩,A30,H⟩:=H
 replace H:(image_head.l0 k a0 ([]:List (S66)) ([]:List Int) t343 0 t344 t345 t346)=some (r1,r2,r3,r4):=H
 have A3:=Aside0.mk A30
 clear A30
 have H':=Aside0.mk H
 clear H
 go_enter Tryd.func63,Tryd.ntmps63
 go_wp2_with (first|((with_reducible refine gate_callee (f:=74) rfl ?_);refine goesL_ (some 14) rfl rfl Tryd.func74 (by kernel_rfl) rfl #[.string a0] rfl (by (try simp only [List.map_toArray,List.map_cons,List.map_nil]);try rfl) ?_;(with_reducible refine (code_Read.calls a0 t339 t340 t341 w _ ?side1 A2.out).mono ?_);(case side1=>repeat (first|(with_reducible first|exact HB.out|apply below_alloc|apply pw_below_drewN|apply below_drew1)|exact HB.out));rintro e w4 ⟨g342,rfl,hi,hb,hb2⟩;refine ⟨_,rfl,?_⟩;have n0_:=Aside0.mk (hb);have n1_:=Aside0.mk (hi);clear HB;have HB:=n0_;have HI342:=n1_;clear n0_ n1_)|((with_reducible refine gate_callee (f:=75) rfl ?_);refine goesL_ (some 16) rfl rfl Tryd.func75 (by kernel_rfl) rfl #[.pointer (some ⟨g342,0,none⟩), .int .i64 256] rfl (by (try simp only [List.map_toArray,List.map_cons,List.map_nil]);try rfl) ?_;(with_reducible refine (code_Reader_Count.calls k g342 t339 t340 t341 256 t343 t344 t345 t346 w _ ?side1 ?side2 A3.out).mono ?_);(case side1=>repeat (first|(with_reducible first|exact HI342.out|apply IsS126.alloc|apply IsS126.drewN|apply IsS126.drew|apply IsS126.set_0|apply IsS126.set_1|apply IsS126.set_2)|exact HI342.out));(case side2=>repeat (first|(with_reducible first|exact HB.out|apply below_alloc|apply pw_below_drewN|apply below_drew1|refine below_set ?_ (IsS126.ge HI342.out))|exact HB.out));rintro e w5 ⟨rfl,hi,hb,hk⟩;refine ⟨_,rfl,?_⟩;have n0_:=Aside0.mk (hb);have n1_:=Aside0.mk (hi);clear HB;clear HI342;have HB:=n0_;have HI342:=n1_;clear n0_ n1_))
 go_loopg [7,8,17] k (fun kq v7 v8 v17 w'=> ∃(x7_1:List (S66)) (x8_1:List Int) (x17_1:Int) (x343000_1:ByteArray) (x343001_1:Int) (x343002_1:Int),v17= .int .i64 x17_1∧Aside0 (image_head.l0 kq a0 x7_1 x8_1 t343 x17_1 x343000_1 x343001_1 x343002_1=some (r1,r2,r3,r4))∧Aside0 (kq≤k)∧Aside0 (Kd.R k66 66 w' w.heap.size (fun _=>True) v7 x7_1)∧Aside0 (Kd.R (Kd.int .i64) 3 w' w.heap.size (fun _=>True) v8 x8_1)∧Aside0 (IsS126 w w' g342 x343000_1 x343001_1 x343002_1)∧Aside0 (Below w.heap.size w w'))
 case atStart=>exact ⟨(([]:List (S66))),(([]:List Int)),(0),(t344),(t345),(t346),(by first|rfl|(simp;done)|(simp [*];done)),H',⟨Nat.le_refl _⟩,⟨by first|exact Kd.R_nil _ _ _ _ _|exact Kd.N_nil _ _ _ _ _|exact Kd.V_nil _ _ _ _ _|exact Kd.Q_nil _ _ _ _ _|exact Kd.S_nil _ _ _ _ _⟩,⟨by first|exact Kd.R_nil _ _ _ _ _|exact Kd.N_nil _ _ _ _ _|exact Kd.V_nil _ _ _ _ _|exact Kd.Q_nil _ _ _ _ _|exact Kd.S_nil _ _ _ _ _⟩,⟨by repeat (first|(with_reducible first|exact HI342.out|apply IsS126.alloc|apply IsS126.drewN|apply IsS126.drew|apply IsS126.set_0|apply IsS126.set_1|apply IsS126.set_2)|exact HI342.out)⟩,⟨by repeat (first|(with_reducible first|exact HB.out|apply below_alloc|apply pw_below_drewN|apply below_drew1|refine below_set ?_ (IsS126.ge HI342.out))|exact HB.out)⟩⟩
 case round=>
  clear H'
  obtain ⟨x7_1,x8_1,x17_1,x343000_1,x343001_1,x343002_1,rfl,HA,HK1,HO_7,HO_8,HI342,HB⟩:=hrel
  cases gk with
  |zero=>exact absurd HA.out (by simp [image_head.l0])
  |succ k1=>
   have H:=HA.out
   clear HA
   simp only [image_head.l0] at H
   by_cases c6:x17_1 < t343
   ·rw [if_pos c6] at H
    have c6b0:decide (x17_1 < t343)=true:=decide_eq_true c6
    clear c6
    replace H:=Option.bind_eq_some_iff.mp H
    obtain ⟨⟨t347,t348,t349,t350⟩,A70,H⟩:=H
    replace H:((code_Reader_Num.f k1 t348 t349 t350).bind fun bt351=>((code_Reader_Count.f k1 bt351.2.1 bt351.2.2.1 bt351.2.2.2 65536).bind fun bt356=>((code_Reader_Err.f bt356.2.1 bt356.2.2.1 bt356.2.2.2).bind fun bt360=>(if bt360.1=0 then (if x7_1.length < 3518437208883 then (if x8_1.length < 17592186044416 then (image_head.l0 k1 a0 (x7_1++[(⟨t347,bt351.1,(⟨#[]⟩:ByteArray)⟩:S66)]) (x8_1++[bt356.1]) t343 (wrap64 (x17_1+1)) bt360.2.1 bt360.2.2.1 bt360.2.2.2) else (none)) else (none)) else ((code_Reader_Err.f bt360.2.1 bt360.2.2.1 bt360.2.2.2).bind fun bt370=>(some (([]:List (S66)),([]:List Int),0,bt370.1)))))))=some (r1,r2,r3,r4):=H
    have A7:=Aside0.mk A70
    clear A70
    replace H:=Option.bind_eq_some_iff.mp H
    obtain ⟨⟨t351,t352,t353,t354⟩,A80,H⟩:=H
    replace H:((code_Reader_Count.f k1 t352 t353 t354 65536).bind fun bt356=>((code_Reader_Err.f bt356.2.1 bt356.2.2.1 bt356.2.2.2).bind fun bt360=>(if bt360.1=0 then (if x7_1.length < 3518437208883 then (if x8_1.length < 17592186044416 then (image_head.l0 k1 a0 (x7_1++[(⟨t347,t351,(⟨#[]⟩:ByteArray)⟩:S66)]) (x8_1++[bt356.1]) t343 (wrap64 (x17_1+1)) bt360.2.1 bt360.2.2.1 bt360.2.2.2) else (none)) else (none)) else ((code_Reader_Err.f bt360.2.1 bt360.2.2.1 bt360.2.2.2).bind fun bt370=>(some (([]:List (S66)),([]:List Int),0,bt370.1))))))=some (r1,r2,r3,r4):=H
    have A8:=Aside0.mk A80
    clear A80
    replace H:=Option.bind_eq_some_iff.mp H
    obtain ⟨⟨t356,t357,t358,t359⟩,A90,H⟩:=H
    replace H:((code_Reader_Err.f t357 t358 t359).bind fun bt360=>(if bt360.1=0 then (if x7_1.length < 3518437208883 then (if x8_1.length < 17592186044416 then (image_head.l0 k1 a0 (x7_1++[(⟨t347,t351,(⟨#[]⟩:ByteArray)⟩:S66)]) (x8_1++[t356]) t343 (wrap64 (x17_1+1)) bt360.2.1 bt360.2.2.1 bt360.2.2.2) else (none)) else (none)) else ((code_Reader_Err.f bt360.2.1 bt360.2.2.1 bt360.2.2.2).bind fun bt370=>(some (([]:List (S66)),([]:List Int),0,bt370.1)))))=some (r1,r2,r3,r4):=H
    have A9:=Aside0.mk A90
    clear A90
    replace H:=Option.bind_eq_some_iff.mp H
    obtain ⟨⟨t360,t361,t362,t363⟩,A100,H⟩:=H
    replace H:(if t360=0 then (if x7_1.length < 3518437208883 then (if x8_1.length < 17592186044416 then (image_head.l0 k1 a0 (x7_1++[(⟨t347,t351,(⟨#[]⟩:ByteArray)⟩:S66)]) (x8_1++[t356]) t343 (wrap64 (x17_1+1)) t361 t362 t363) else (none)) else (none)) else ((code_Reader_Err.f t361 t362 t363).bind fun bt370=>(some (([]:List (S66)),([]:List Int),0,bt370.1))))=some (r1,r2,r3,r4):=H
    have A10:=Aside0.mk A100
    clear A100
    by_cases c11:t360=0
    ·rw [if_pos c11] at H
     have c11b0:(t360 == 0)=true:=beq_iff_eq.mpr c11
     have c11b1:(t360 != 0)=false:=bne_eq_false_iff_eq.mpr c11
     clear c11
     by_cases c12:x7_1.length < 3518437208883
     ·rw [if_pos c12] at H
      have LMc12:=Aside0.mk c12
      clear c12
      obtain ⟨y364,hy364⟩: ∃y_:List (S66),y_=(x7_1++[(⟨t347,t351,(⟨#[]⟩:ByteArray)⟩:S66)]):=⟨_,rfl⟩
      replace H:(if x8_1.length < 17592186044416 then (image_head.l0 k1 a0 y364 (x8_1++[t356]) t343 (wrap64 (x17_1+1)) t361 t362 t363) else (none))=some (r1,r2,r3,r4):=by first|(rw [hy364];with_reducible exact H)|(have H2_:=(Option.bind_some _ _).symm.trans H;rw [hy364];with_reducible exact H2_)|(have H2_:=(Option.bind_some _ _).symm.trans H;with_reducible exact H2_)|with_reducible exact H|(rw [hy364];exact H)|exact H
      have Ny364:=Aside0.mk hy364
      clear hy364
      by_cases c13:x8_1.length < 17592186044416
      ·rw [if_pos c13] at H
       have LMc13:=Aside0.mk c13
       clear c13
       obtain ⟨y367,hy367⟩: ∃y_:List Int,y_=(x8_1++[t356]):=⟨_,rfl⟩
       replace H:(image_head.l0 k1 a0 y364 y367 t343 (wrap64 (x17_1+1)) t361 t362 t363)=some (r1,r2,r3,r4):=by first|(rw [hy367];with_reducible exact H)|(have H2_:=(Option.bind_some _ _).symm.trans H;rw [hy367];with_reducible exact H2_)|(have H2_:=(Option.bind_some _ _).symm.trans H;with_reducible exact H2_)|with_reducible exact H|(rw [hy367];exact H)|exact H
       have Ny367:=Aside0.mk hy367
       clear hy367
       have H':=Aside0.mk H
       clear H
       go_wp2_with (first|((with_reducible refine gate_callee (f:=76) rfl ?_);refine goesL_ (some 20) rfl rfl Tryd.func76 (by kernel_rfl) rfl #[.pointer (some ⟨g342,0,none⟩), .int .i64 200] rfl (by (try simp only [List.map_toArray,List.map_cons,List.map_nil]);try rfl) ?_;(with_reducible refine (code_Reader_Text.calls k1 g342 x343000_1 x343001_1 x343002_1 200 t347 t348 t349 t350 w _ ?side1 ?side2 A7.out).mono ?_);(case side1=>repeat (first|(with_reducible first|exact HI342.out|apply IsS126.alloc|apply IsS126.drewN|apply IsS126.drew|apply IsS126.set_0|apply IsS126.set_1|apply IsS126.set_2)|exact HI342.out));(case side2=>repeat (first|(with_reducible first|exact HB.out|apply below_alloc|apply pw_below_drewN|apply below_drew1|refine below_set ?_ (IsS126.ge HI342.out))|exact HB.out));rintro e w14 ⟨rfl,hi,hb,hk⟩;refine ⟨_,rfl,?_⟩;have n0_:=Aside0.mk (Kd.R_mono (Kd.R_keep (IsS126.apart (show IsS126 w _ g342 x343000_1 x343001_1 x343002_1 from by repeat (first|(with_reducible first|exact HI342.out|apply IsS126.alloc|apply IsS126.drewN|apply IsS126.drew|apply IsS126.set_0|apply IsS126.set_1|apply IsS126.set_2)|exact HI342.out)) (by (with_reducible repeat (first|apply Kd.R_alloc|apply Kd.R_drewN|apply Kd.R_drew));exact HO_7.out) (by decide)) hk (fun _ h=>h.2)) (fun _ h=>h.1));have n1_:=Aside0.mk (Kd.R_mono (Kd.R_keep (IsS126.apart (show IsS126 w _ g342 x343000_1 x343001_1 x343002_1 from by repeat (first|(with_reducible first|exact HI342.out|apply IsS126.alloc|apply IsS126.drewN|apply IsS126.drew|apply IsS126.set_0|apply IsS126.set_1|apply IsS126.set_2)|exact HI342.out)) (by (with_reducible repeat (first|apply Kd.R_alloc|apply Kd.R_drewN|apply Kd.R_drew));exact HO_8.out) (by decide)) hk (fun _ h=>h.2)) (fun _ h=>h.1));have n2_:=Aside0.mk (hb);have n3_:=Aside0.mk (hi);clear HO_7;clear HO_8;clear HB;clear HI342;have HO_7:=n0_;have HO_8:=n1_;have HB:=n2_;have HI342:=n3_;clear n0_ n1_ n2_ n3_)|((with_reducible refine gate_callee (f:=77) rfl ?_);refine goesL_ (some 22) rfl rfl Tryd.func77 (by kernel_rfl) rfl #[.pointer (some ⟨g342,0,none⟩)] rfl (by (try simp only [List.map_toArray,List.map_cons,List.map_nil]);try rfl) ?_;(with_reducible refine (code_Reader_Num.calls k1 g342 t348 t349 t350 t351 t352 t353 t354 w _ ?side1 ?side2 A8.out).mono ?_);(case side1=>repeat (first|(with_reducible first|exact HI342.out|apply IsS126.alloc|apply IsS126.drewN|apply IsS126.drew|apply IsS126.set_0|apply IsS126.set_1|apply IsS126.set_2)|exact HI342.out));(case side2=>repeat (first|(with_reducible first|exact HB.out|apply below_alloc|apply pw_below_drewN|apply below_drew1|refine below_set ?_ (IsS126.ge HI342.out))|exact HB.out));rintro e w15 ⟨rfl,hi,hb,hk⟩;refine ⟨_,rfl,?_⟩;have n0_:=Aside0.mk (Kd.R_mono (Kd.R_keep (IsS126.apart (show IsS126 w _ g342 t348 t349 t350 from by repeat (first|(with_reducible first|exact HI342.out|apply IsS126.alloc|apply IsS126.drewN|apply IsS126.drew|apply IsS126.set_0|apply IsS126.set_1|apply IsS126.set_2)|exact HI342.out)) (by (with_reducible repeat (first|apply Kd.R_alloc|apply Kd.R_drewN|apply Kd.R_drew));exact HO_7.out) (by decide)) hk (fun _ h=>h.2)) (fun _ h=>h.1));have n1_:=Aside0.mk (Kd.R_mono (Kd.R_keep (IsS126.apart (show IsS126 w _ g342 t348 t349 t350 from by repeat (first|(with_reducible first|exact HI342.out|apply IsS126.alloc|apply IsS126.drewN|apply IsS126.drew|apply IsS126.set_0|apply IsS126.set_1|apply IsS126.set_2)|exact HI342.out)) (by (with_reducible repeat (first|apply Kd.R_alloc|apply Kd.R_drewN|apply Kd.R_drew));exact HO_8.out) (by decide)) hk (fun _ h=>h.2)) (fun _ h=>h.1));have n2_:=Aside0.mk (hb);have n3_:=Aside0.mk (hi);clear HO_7;clear HO_8;clear HB;clear HI342;have HO_7:=n0_;have HO_8:=n1_;have HB:=n2_;have HI342:=n3_;clear n0_ n1_ n2_ n3_)|((with_reducible refine gate_dst (N:=9) rfl ?_);refine box_event ?hg (N:=9) ?hd (cs:=#[.string (⟨#[]⟩:ByteArray), .int .i64 0, .string (⟨#[]⟩:ByteArray)]) (t:=66) ?hr ?_;(case hd=>rfl);(case hg=>rfl);(case hr=>first|(go_simp;done)|(go_simp;rfl));intro gb355 hg w16 hbox hb;have n0_:=Aside0.mk (Kd.R_below (Kd.R_elderB (by (with_reducible repeat (first|apply Kd.R_alloc|apply Kd.R_drewN|apply Kd.R_drew));exact HO_7.out) gb355 (Nat.le_of_eq hg.symm)) hb);have n1_:=Aside0.mk (Kd.R_below (by (with_reducible repeat (first|apply Kd.R_alloc|apply Kd.R_drewN|apply Kd.R_drew));exact HO_8.out) hb);have n2_:=Aside0.mk (IsS126.below (by repeat (first|(with_reducible first|exact HI342.out|apply IsS126.alloc|apply IsS126.drewN|apply IsS126.drew|apply IsS126.set_0|apply IsS126.set_1|apply IsS126.set_2)|exact HI342.out)) hb);have n3_:=Aside0.mk (below_step (by repeat (first|(with_reducible first|exact HB.out|apply below_alloc|apply pw_below_drewN|apply below_drew1|refine below_set ?_ (IsS126.ge HI342.out))|exact HB.out)) hb);have n4_:=Aside0.mk (hbox);have n5_:=Aside0.mk ((by rw [hg];exact (below_size (by repeat (first|(with_reducible first|exact HB.out|apply below_alloc|apply pw_below_drewN|apply below_drew1|refine below_set ?_ (IsS126.ge HI342.out))|exact HB.out))):w.heap.size≤gb355));have n6_:=Aside0.mk ((by rw [hg];exact (below_size (by repeat (first|(with_reducible first|exact HB.out|apply below_alloc|apply pw_below_drewN|apply below_drew1|refine below_set ?_ (IsS126.ge HI342.out))|exact HB.out))):w.heap.size≤gb355));have n7_:=Aside0.mk ((by rw [hg];exact Nat.ne_of_lt (IsS126.lt (show IsS126 w _ g342 t352 t353 t354 from by repeat (first|(with_reducible first|exact HI342.out|apply IsS126.alloc|apply IsS126.drewN|apply IsS126.drew|apply IsS126.set_0|apply IsS126.set_1|apply IsS126.set_2)|exact HI342.out))):g342≠gb355));have n8_:=Aside0.mk ((by rw [hg];exact Nat.ne_of_gt (IsS126.lt (show IsS126 w _ g342 t352 t353 t354 from by repeat (first|(with_reducible first|exact HI342.out|apply IsS126.alloc|apply IsS126.drewN|apply IsS126.drew|apply IsS126.set_0|apply IsS126.set_1|apply IsS126.set_2)|exact HI342.out))):gb355≠g342));clear HO_7;clear HO_8;clear HI342;clear HB;have HO_7:=n0_;have HO_8:=n1_;have HI342:=n2_;have HB:=n3_;have BK355:=n4_;have GW355:=n5_;have GE355:=n6_;have NB342_355:=n7_;have NB355_342:=n8_;clear n0_ n1_ n2_ n3_ n4_ n5_ n6_ n7_ n8_;clear hb hbox hg;have hnb17:=NB355_342.out;have hnc17:=NB342_355.out;have hcz18_0:w16.cell? ⟨gb355,0,none⟩=some (.string (⟨#[]⟩:ByteArray)):=(blk_cell BK355.out 0).trans rfl;have hcz18_1:w16.cell? ⟨gb355,1,none⟩=some (.int .i64 0):=(blk_cell BK355.out 1).trans rfl;have hcz18_2:w16.cell? ⟨gb355,2,none⟩=some (.string (⟨#[]⟩:ByteArray)):=(blk_cell BK355.out 2).trans rfl;have hfz18_0:=blk_frozen BK355.out 0;have hfz18_1:=blk_frozen BK355.out 1;have hfz18_2:=blk_frozen BK355.out 2)|((with_reducible refine gate_callee (f:=75) rfl ?_);refine goesL_ (some 25) rfl rfl Tryd.func75 (by kernel_rfl) rfl #[.pointer (some ⟨g342,0,none⟩), .int .i64 65536] rfl (by (try simp only [List.map_toArray,List.map_cons,List.map_nil]);try rfl) ?_;(with_reducible refine (code_Reader_Count.calls k1 g342 t352 t353 t354 65536 t356 t357 t358 t359 w _ ?side1 ?side2 A9.out).mono ?_);(case side1=>repeat (first|(with_reducible first|exact HI342.out|apply IsS126.alloc|apply IsS126.drewN|apply IsS126.drew|apply IsS126.set_0|apply IsS126.set_1|apply IsS126.set_2|refine IsS126.far ?_ NB342_355.out _)|exact HI342.out));(case side2=>repeat (first|(with_reducible first|exact HB.out|apply below_alloc|apply pw_below_drewN|apply below_drew1|refine below_set ?_ (IsS126.ge HI342.out)|refine below_set ?_ GE355.out)|exact HB.out));rintro e w19 ⟨rfl,hi,hb,hk⟩;refine ⟨_,rfl,?_⟩;have n0_:=Aside0.mk (Kd.R_mono (Kd.R_keep (IsS126.apart (show IsS126 w _ g342 t352 t353 t354 from by repeat (first|(with_reducible first|exact HI342.out|apply IsS126.alloc|apply IsS126.drewN|apply IsS126.drew|apply IsS126.set_0|apply IsS126.set_1|apply IsS126.set_2|refine IsS126.far ?_ NB342_355.out _)|exact HI342.out)) (by (with_reducible repeat (first|apply Kd.R_alloc|apply Kd.R_drewN|apply Kd.R_drew));exact (Kd.R_mono (Kd.R_far (p:=⟨gb355,2,none⟩) (Kd.R_far (p:=⟨gb355,1,none⟩) (Kd.R_far (p:=⟨gb355,0,none⟩) (Kd.R_mono HO_7.out (fun k_ hk=>(⟨hk,hk.2⟩:_∧k_≠gb355))) (fun _ hk=>hk.2) (.string t347)) (fun _ hk=>hk.2) (.int .i64 t351)) (fun _ hk=>hk.2) (.string (⟨#[]⟩:ByteArray))) (fun _ h_=>h_.1))) (by decide)) hk (fun _ h=>h.2)) (fun _ h=>h.1));have n1_:=Aside0.mk (Kd.R_mono (Kd.R_keep (IsS126.apart (show IsS126 w _ g342 t352 t353 t354 from by repeat (first|(with_reducible first|exact HI342.out|apply IsS126.alloc|apply IsS126.drewN|apply IsS126.drew|apply IsS126.set_0|apply IsS126.set_1|apply IsS126.set_2|refine IsS126.far ?_ NB342_355.out _)|exact HI342.out)) (by (with_reducible repeat (first|apply Kd.R_alloc|apply Kd.R_drewN|apply Kd.R_drew));exact (Kd.R_mono (Kd.R_far (p:=⟨gb355,2,none⟩) (Kd.R_far (p:=⟨gb355,1,none⟩) (Kd.R_far (p:=⟨gb355,0,none⟩) (Kd.R_types HO_8.out BK355.out (by decide)) (fun _ hk=>hk.2) (.string t347)) (fun _ hk=>hk.2) (.int .i64 t351)) (fun _ hk=>hk.2) (.string (⟨#[]⟩:ByteArray))) (fun _ h_=>h_.1))) (by decide)) hk (fun _ h=>h.2)) (fun _ h=>h.1));have n2_:=Aside0.mk (KeepBut.blk hk (g':=gb355) (o:= .cells #[.string t347, .int .i64 t351, .string (⟨#[]⟩:ByteArray)] 66 (0,0)) (by (with_reducible repeat (first|refine blk_drewN ?_ _|refine blk_drew ?_|refine blk_alloc ?_ _));refine blk_put (cs:=#[.string t347, .int .i64 t351, .string (⟨#[]⟩:ByteArray)]) ?_ 2 _ rfl;(with_reducible repeat (first|refine blk_drewN ?_ _|refine blk_drew ?_|refine blk_alloc ?_ _));refine blk_put (cs:=#[.string t347, .int .i64 0, .string (⟨#[]⟩:ByteArray)]) ?_ 1 _ rfl;(with_reducible repeat (first|refine blk_drewN ?_ _|refine blk_drew ?_|refine blk_alloc ?_ _));refine blk_put (cs:=#[.string (⟨#[]⟩:ByteArray), .int .i64 0, .string (⟨#[]⟩:ByteArray)]) ?_ 0 _ rfl;(with_reducible repeat (first|refine blk_drewN ?_ _|refine blk_drew ?_|refine blk_alloc ?_ _));exact BK355.out) NB355_342.out (by simp));have n3_:=Aside0.mk (hb);have n4_:=Aside0.mk (hi);clear HO_7;clear HO_8;clear BK355;clear HB;clear HI342;have HO_7:=n0_;have HO_8:=n1_;have BK355:=n2_;have HB:=n3_;have HI342:=n4_;clear n0_ n1_ n2_ n3_ n4_)|((with_reducible refine gate_callee (f:=78) rfl ?_);refine goesL_ (some 27) rfl rfl Tryd.func78 (by kernel_rfl) rfl #[.pointer (some ⟨g342,0,none⟩)] rfl (by (try simp only [List.map_toArray,List.map_cons,List.map_nil]);try rfl) ?_;(with_reducible refine (code_Reader_Err.calls g342 t357 t358 t359 t360 t361 t362 t363 w _ ?side1 ?side2 A10.out).mono ?_);(case side1=>repeat (first|(with_reducible first|exact HI342.out|apply IsS126.alloc|apply IsS126.drewN|apply IsS126.drew|apply IsS126.set_0|apply IsS126.set_1|apply IsS126.set_2|refine IsS126.far ?_ NB342_355.out _)|exact HI342.out));(case side2=>repeat (first|(with_reducible first|exact HB.out|apply below_alloc|apply pw_below_drewN|apply below_drew1|refine below_set ?_ (IsS126.ge HI342.out)|refine below_set ?_ GE355.out)|exact HB.out));rintro e w20 ⟨rfl,hi,hb,hk⟩;refine ⟨_,rfl,?_⟩;have n0_:=Aside0.mk (Kd.R_mono (Kd.R_keep (IsS126.apart (show IsS126 w _ g342 t357 t358 t359 from by repeat (first|(with_reducible first|exact HI342.out|apply IsS126.alloc|apply IsS126.drewN|apply IsS126.drew|apply IsS126.set_0|apply IsS126.set_1|apply IsS126.set_2|refine IsS126.far ?_ NB342_355.out _)|exact HI342.out)) (by (with_reducible repeat (first|apply Kd.R_alloc|apply Kd.R_drewN|apply Kd.R_drew));exact HO_7.out) (by decide)) hk (fun _ h=>h.2)) (fun _ h=>h.1));have n1_:=Aside0.mk (Kd.R_mono (Kd.R_keep (IsS126.apart (show IsS126 w _ g342 t357 t358 t359 from by repeat (first|(with_reducible first|exact HI342.out|apply IsS126.alloc|apply IsS126.drewN|apply IsS126.drew|apply IsS126.set_0|apply IsS126.set_1|apply IsS126.set_2|refine IsS126.far ?_ NB342_355.out _)|exact HI342.out)) (by (with_reducible repeat (first|apply Kd.R_alloc|apply Kd.R_drewN|apply Kd.R_drew));exact HO_8.out) (by decide)) hk (fun _ h=>h.2)) (fun _ h=>h.1));have n2_:=Aside0.mk (KeepBut.blk hk (g':=gb355) (o:= .cells #[.string t347, .int .i64 t351, .string (⟨#[]⟩:ByteArray)] 66 (0,0)) (by (with_reducible repeat (first|refine blk_drewN ?_ _|refine blk_drew ?_|refine blk_alloc ?_ _));exact BK355.out) NB355_342.out (by simp));have n3_:=Aside0.mk (hb);have n4_:=Aside0.mk (hi);clear HO_7;clear HO_8;clear BK355;clear HB;clear HI342;have HO_7:=n0_;have HO_8:=n1_;have BK355:=n2_;have HB:=n3_;have HI342:=n4_;clear n0_ n1_ n2_ n3_ n4_;have hcz21_0:w20.cell? ⟨gb355,0,none⟩=some (.string t347):=(blk_cell BK355.out 0).trans rfl;have hcz21_1:w20.cell? ⟨gb355,1,none⟩=some (.int .i64 t351):=(blk_cell BK355.out 1).trans rfl;have hcz21_2:w20.cell? ⟨gb355,2,none⟩=some (.string (⟨#[]⟩:ByteArray)):=(blk_cell BK355.out 2).trans rfl;have hfz21_0:=blk_frozen BK355.out 0;have hfz21_1:=blk_frozen BK355.out 1;have hfz21_2:=blk_frozen BK355.out 2)|((with_reducible refine gate_builtin (b:= .append) (xs:=#[.tmp 31, .tmp 33]) rfl ?_);at_builtin;refine Kd.R_append k66 (w0:=w) w.heap.size rfl (.tmp 31) (.tmp 33) 37 66 (.agg #[(.string ⟨#[]⟩),(.int .i64 0),(.string ⟨#[]⟩)]) 40 rfl Tryd.underlying37 info66 rfl (by decide) (by omega) u7 x7_1 (⟨t347,t351,(⟨#[]⟩:ByteArray)⟩:S66) [.string t347, .int .i64 t351, .string (⟨#[]⟩:ByteArray)] (fun k_=>k_≠gb355) (fun _=>False) rfl rfl ?aP (fun _ hk=>hk.elim) ?aF ?aO ?aB ?aS ?aL ?_;(case aP=>exact k66_mkM _ _ _ (⟨t347,t351,(⟨#[]⟩:ByteArray)⟩:S66));(case aB=>exact (by repeat (first|(with_reducible first|exact HB.out|apply below_alloc|apply pw_below_drewN|apply below_drew1|refine below_set ?_ (IsS126.ge HI342.out)|refine below_set ?_ GE355.out)|exact HB.out)));(case aF=>exact (fun k_ hk=>Kd.freshB (g:=gb355) (o:= .cells #[.string t347, .int .i64 t351, .string (⟨#[]⟩:ByteArray)] 66 (0,0)) (by (with_reducible repeat (first|refine blk_drewN ?_ _|refine blk_drew ?_|refine blk_alloc ?_ _));exact BK355.out) k_ hk));(case aO=>exact (by (with_reducible repeat (first|apply Kd.R_alloc|apply Kd.R_drewN|apply Kd.R_drew));exact Kd.R_mono HO_7.out (fun _ hk=>hk.2)));(case aS=>exact (below_size (by repeat (first|(with_reducible first|exact HB.out|apply below_alloc|apply pw_below_drewN|apply below_drew1|refine below_set ?_ (IsS126.ge HI342.out)|refine below_set ?_ GE355.out)|exact HB.out))));(case aL=>have:=LMc12.out;omega);intro v365 w22 ho hb hg hat;rw [← Ny364.out] at ho;have n0_:=Aside0.mk (Kd.R_over' (by (with_reducible repeat (first|apply Kd.R_alloc|apply Kd.R_drewN|apply Kd.R_drew));exact HO_8.out) (Kd.R_typed (by (with_reducible repeat (first|apply Kd.R_alloc|apply Kd.R_drewN|apply Kd.R_drew));exact HO_7.out)) (by decide) hg);have n1_:=Aside0.mk (IsS126.grown (by repeat (first|(with_reducible first|exact HI342.out|apply IsS126.alloc|apply IsS126.drewN|apply IsS126.drew|apply IsS126.set_0|apply IsS126.set_1|apply IsS126.set_2|refine IsS126.far ?_ NB342_355.out _)|exact HI342.out)) hg (IsS126.own_ne HI342.out HO_7.out (by decide)));have n2_:=Aside0.mk (blk_grown (g:=gb355) (o:= .cells #[.string t347, .int .i64 t351, .string (⟨#[]⟩:ByteArray)] 66 (0,0)) (by (with_reducible repeat (first|refine blk_drewN ?_ _|refine blk_drew ?_|refine blk_alloc ?_ _));exact BK355.out) hg (Kd.R_away HO_7.out (fun _ hk=>hk.2)));have n3_:=Aside0.mk (hb);have n4_:=Aside0.mk (ho);clear HO_8;clear HI342;clear BK355;clear HB;clear HO_7;have HO_8:=n0_;have HI342:=n1_;have BK355:=n2_;have HB:=n3_;have HO366:=n4_;clear n0_ n1_ n2_ n3_ n4_;clear ho hb hg hat)|((with_reducible refine gate_builtin (b:= .append) (xs:=#[.tmp 35, .tmp 37]) rfl ?_);at_builtin;refine Kd.R_append (Kd.int .i64) (w0:=w) w.heap.size rfl (.tmp 35) (.tmp 37) 23 3 (.int .i64 0) 8 rfl Tryd.underlying23 info3 rfl (by decide) (by omega) u8 x8_1 t356 [.int .i64 t356] (fun _=>True) (fun _=>False) rfl rfl ?aP (fun _ hk=>hk.elim) ?aF ?aO ?aB ?aS ?aL ?_;(case aP=>exact rfl);(case aB=>exact (by repeat (first|(with_reducible first|exact HB.out|apply below_alloc|apply pw_below_drewN|apply below_drew1|refine below_set ?_ (IsS126.ge HI342.out)|refine below_set ?_ GE355.out)|exact HB.out)));(case aF=>exact (fun _ _=>trivial));(case aO=>exact (by (with_reducible repeat (first|apply Kd.R_alloc|apply Kd.R_drewN|apply Kd.R_drew));exact HO_8.out));(case aS=>exact (below_size (by repeat (first|(with_reducible first|exact HB.out|apply below_alloc|apply pw_below_drewN|apply below_drew1|refine below_set ?_ (IsS126.ge HI342.out)|refine below_set ?_ GE355.out)|exact HB.out))));(case aL=>have:=LMc13.out;omega);intro v368 w23 ho hb hg hat;rw [← Ny367.out] at ho;have n0_:=Aside0.mk (IsS126.grown (by repeat (first|(with_reducible first|exact HI342.out|apply IsS126.alloc|apply IsS126.drewN|apply IsS126.drew|apply IsS126.set_0|apply IsS126.set_1|apply IsS126.set_2|refine IsS126.far ?_ NB342_355.out _)|exact HI342.out)) hg (IsS126.own_ne HI342.out HO_8.out (by decide)));have n1_:=Aside0.mk (blk_grown (g:=gb355) (o:= .cells #[.string t347, .int .i64 t351, .string (⟨#[]⟩:ByteArray)] 66 (0,0)) (by (with_reducible repeat (first|refine blk_drewN ?_ _|refine blk_drew ?_|refine blk_alloc ?_ _));exact BK355.out) hg (Kd.R_ne HO_8.out BK355.out (by decide)));have n2_:=Aside0.mk (Kd.R_over' (by (with_reducible repeat (first|apply Kd.R_alloc|apply Kd.R_drewN|apply Kd.R_drew));exact HO366.out) (Kd.R_typed (by (with_reducible repeat (first|apply Kd.R_alloc|apply Kd.R_drewN|apply Kd.R_drew));exact HO_8.out)) (by decide) hg);have n3_:=Aside0.mk (hb);have n4_:=Aside0.mk (ho);clear HI342;clear BK355;clear HO366;clear HB;clear HO_8;have HI342:=n0_;have BK355:=n1_;have HO366:=n2_;have HB:=n3_;have HO369:=n4_;clear n0_ n1_ n2_ n3_ n4_;clear ho hb hg hat))
       go_roundg k1
       case measure=>have:=HK1.out;omega
       case rel=>exact ⟨(y364),(y367),(wrap64 (x17_1+1)),(t361),(t362),(t363),(by first|rfl|(simp;done)|(simp [*];done)),H',⟨by have:=HK1.out;omega⟩,⟨by (with_reducible repeat (first|apply Kd.R_alloc|apply Kd.R_drewN|apply Kd.R_drew));exact Kd.R_mono HO366.out (fun _ hk=>trivial)⟩,⟨by (with_reducible repeat (first|apply Kd.R_alloc|apply Kd.R_drewN|apply Kd.R_drew));exact HO369.out⟩,⟨by repeat (first|(with_reducible first|exact HI342.out|apply IsS126.alloc|apply IsS126.drewN|apply IsS126.drew|apply IsS126.set_0|apply IsS126.set_1|apply IsS126.set_2|refine IsS126.far ?_ NB342_355.out _)|exact HI342.out)⟩,⟨by repeat (first|(with_reducible first|exact HB.out|apply below_alloc|apply pw_below_drewN|apply below_drew1|refine below_set ?_ (IsS126.ge HI342.out)|refine below_set ?_ GE355.out)|exact HB.out)⟩⟩
      ·rw [if_neg c13] at H
       exact absurd H (by simp)
     ·rw [if_neg c12] at H
      exact absurd H (by simp)
    ·rw [if_neg c11] at H
     have c11b0:(t360 == 0)=false:=beq_eq_false_iff_ne.mpr c11
     have c11b1:(t360 != 0)=true:=bne_iff_ne.mpr c11
     replace H:=Option.bind_eq_some_iff.mp H
     obtain ⟨⟨t370,t371,t372,t373⟩,A240,H⟩:=H
     replace H:(some (([]:List (S66)),([]:List Int),0,t370))=some (r1,r2,r3,r4):=H
     have A24:=Aside0.mk A240
     clear A240
     simp only [Option.some.injEq,Prod.mk.injEq] at H
     obtain ⟨rfl,rfl,rfl,rfl⟩:=H
     go_wp2_with (first|((with_reducible refine gate_callee (f:=76) rfl ?_);refine goesL_ (some 20) rfl rfl Tryd.func76 (by kernel_rfl) rfl #[.pointer (some ⟨g342,0,none⟩), .int .i64 200] rfl (by (try simp only [List.map_toArray,List.map_cons,List.map_nil]);try rfl) ?_;(with_reducible refine (code_Reader_Text.calls k1 g342 x343000_1 x343001_1 x343002_1 200 t347 t348 t349 t350 w _ ?side1 ?side2 A7.out).mono ?_);(case side1=>repeat (first|(with_reducible first|exact HI342.out|apply IsS126.alloc|apply IsS126.drewN|apply IsS126.drew|apply IsS126.set_0|apply IsS126.set_1|apply IsS126.set_2)|exact HI342.out));(case side2=>repeat (first|(with_reducible first|exact HB.out|apply below_alloc|apply pw_below_drewN|apply below_drew1|refine below_set ?_ (IsS126.ge HI342.out))|exact HB.out));rintro e w25 ⟨rfl,hi,hb,hk⟩;refine ⟨_,rfl,?_⟩;have n0_:=Aside0.mk (Kd.R_mono (Kd.R_keep (IsS126.apart (show IsS126 w _ g342 x343000_1 x343001_1 x343002_1 from by repeat (first|(with_reducible first|exact HI342.out|apply IsS126.alloc|apply IsS126.drewN|apply IsS126.drew|apply IsS126.set_0|apply IsS126.set_1|apply IsS126.set_2)|exact HI342.out)) (by (with_reducible repeat (first|apply Kd.R_alloc|apply Kd.R_drewN|apply Kd.R_drew));exact HO_7.out) (by decide)) hk (fun _ h=>h.2)) (fun _ h=>h.1));have n1_:=Aside0.mk (Kd.R_mono (Kd.R_keep (IsS126.apart (show IsS126 w _ g342 x343000_1 x343001_1 x343002_1 from by repeat (first|(with_reducible first|exact HI342.out|apply IsS126.alloc|apply IsS126.drewN|apply IsS126.drew|apply IsS126.set_0|apply IsS126.set_1|apply IsS126.set_2)|exact HI342.out)) (by (with_reducible repeat (first|apply Kd.R_alloc|apply Kd.R_drewN|apply Kd.R_drew));exact HO_8.out) (by decide)) hk (fun _ h=>h.2)) (fun _ h=>h.1));have n2_:=Aside0.mk (hb);have n3_:=Aside0.mk (hi);clear HO_7;clear HO_8;clear HB;clear HI342;have HO_7:=n0_;have HO_8:=n1_;have HB:=n2_;have HI342:=n3_;clear n0_ n1_ n2_ n3_)|((with_reducible refine gate_callee (f:=77) rfl ?_);refine goesL_ (some 22) rfl rfl Tryd.func77 (by kernel_rfl) rfl #[.pointer (some ⟨g342,0,none⟩)] rfl (by (try simp only [List.map_toArray,List.map_cons,List.map_nil]);try rfl) ?_;(with_reducible refine (code_Reader_Num.calls k1 g342 t348 t349 t350 t351 t352 t353 t354 w _ ?side1 ?side2 A8.out).mono ?_);(case side1=>repeat (first|(with_reducible first|exact HI342.out|apply IsS126.alloc|apply IsS126.drewN|apply IsS126.drew|apply IsS126.set_0|apply IsS126.set_1|apply IsS126.set_2)|exact HI342.out));(case side2=>repeat (first|(with_reducible first|exact HB.out|apply below_alloc|apply pw_below_drewN|apply below_drew1|refine below_set ?_ (IsS126.ge HI342.out))|exact HB.out));rintro e w26 ⟨rfl,hi,hb,hk⟩;refine ⟨_,rfl,?_⟩;have n0_:=Aside0.mk (Kd.R_mono (Kd.R_keep (IsS126.apart (show IsS126 w _ g342 t348 t349 t350 from by repeat (first|(with_reducible first|exact HI342.out|apply IsS126.alloc|apply IsS126.drewN|apply IsS126.drew|apply IsS126.set_0|apply IsS126.set_1|apply IsS126.set_2)|exact HI342.out)) (by (with_reducible repeat (first|apply Kd.R_alloc|apply Kd.R_drewN|apply Kd.R_drew));exact HO_7.out) (by decide)) hk (fun _ h=>h.2)) (fun _ h=>h.1));have n1_:=Aside0.mk (Kd.R_mono (Kd.R_keep (IsS126.apart (show IsS126 w _ g342 t348 t349 t350 from by repeat (first|(with_reducible first|exact HI342.out|apply IsS126.alloc|apply IsS126.drewN|apply IsS126.drew|apply IsS126.set_0|apply IsS126.set_1|apply IsS126.set_2)|exact HI342.out)) (by (with_reducible repeat (first|apply Kd.R_alloc|apply Kd.R_drewN|apply Kd.R_drew));exact HO_8.out) (by decide)) hk (fun _ h=>h.2)) (fun _ h=>h.1));have n2_:=Aside0.mk (hb);have n3_:=Aside0.mk (hi);clear HO_7;clear HO_8;clear HB;clear HI342;have HO_7:=n0_;have HO_8:=n1_;have HB:=n2_;have HI342:=n3_;clear n0_ n1_ n2_ n3_)|((with_reducible refine gate_dst (N:=9) rfl ?_);refine box_event ?hg (N:=9) ?hd (cs:=#[.string (⟨#[]⟩:ByteArray), .int .i64 0, .string (⟨#[]⟩:ByteArray)]) (t:=66) ?hr ?_;(case hd=>rfl);(case hg=>rfl);(case hr=>first|(go_simp;done)|(go_simp;rfl));intro gb355 hg w27 hbox hb;have n0_:=Aside0.mk (Kd.R_below (Kd.R_elderB (by (with_reducible repeat (first|apply Kd.R_alloc|apply Kd.R_drewN|apply Kd.R_drew));exact HO_7.out) gb355 (Nat.le_of_eq hg.symm)) hb);have n1_:=Aside0.mk (Kd.R_below (by (with_reducible repeat (first|apply Kd.R_alloc|apply Kd.R_drewN|apply Kd.R_drew));exact HO_8.out) hb);have n2_:=Aside0.mk (IsS126.below (by repeat (first|(with_reducible first|exact HI342.out|apply IsS126.alloc|apply IsS126.drewN|apply IsS126.drew|apply IsS126.set_0|apply IsS126.set_1|apply IsS126.set_2)|exact HI342.out)) hb);have n3_:=Aside0.mk (below_step (by repeat (first|(with_reducible first|exact HB.out|apply below_alloc|apply pw_below_drewN|apply below_drew1|refine below_set ?_ (IsS126.ge HI342.out))|exact HB.out)) hb);have n4_:=Aside0.mk (hbox);have n5_:=Aside0.mk ((by rw [hg];exact (below_size (by repeat (first|(with_reducible first|exact HB.out|apply below_alloc|apply pw_below_drewN|apply below_drew1|refine below_set ?_ (IsS126.ge HI342.out))|exact HB.out))):w.heap.size≤gb355));have n6_:=Aside0.mk ((by rw [hg];exact (below_size (by repeat (first|(with_reducible first|exact HB.out|apply below_alloc|apply pw_below_drewN|apply below_drew1|refine below_set ?_ (IsS126.ge HI342.out))|exact HB.out))):w.heap.size≤gb355));have n7_:=Aside0.mk ((by rw [hg];exact Nat.ne_of_lt (IsS126.lt (show IsS126 w _ g342 t352 t353 t354 from by repeat (first|(with_reducible first|exact HI342.out|apply IsS126.alloc|apply IsS126.drewN|apply IsS126.drew|apply IsS126.set_0|apply IsS126.set_1|apply IsS126.set_2)|exact HI342.out))):g342≠gb355));have n8_:=Aside0.mk ((by rw [hg];exact Nat.ne_of_gt (IsS126.lt (show IsS126 w _ g342 t352 t353 t354 from by repeat (first|(with_reducible first|exact HI342.out|apply IsS126.alloc|apply IsS126.drewN|apply IsS126.drew|apply IsS126.set_0|apply IsS126.set_1|apply IsS126.set_2)|exact HI342.out))):gb355≠g342));clear HO_7;clear HO_8;clear HI342;clear HB;have HO_7:=n0_;have HO_8:=n1_;have HI342:=n2_;have HB:=n3_;have BK355:=n4_;have GW355:=n5_;have GE355:=n6_;have NB342_355:=n7_;have NB355_342:=n8_;clear n0_ n1_ n2_ n3_ n4_ n5_ n6_ n7_ n8_;clear hb hbox hg;have hnb28:=NB355_342.out;have hnc28:=NB342_355.out;have hcz29_0:w27.cell? ⟨gb355,0,none⟩=some (.string (⟨#[]⟩:ByteArray)):=(blk_cell BK355.out 0).trans rfl;have hcz29_1:w27.cell? ⟨gb355,1,none⟩=some (.int .i64 0):=(blk_cell BK355.out 1).trans rfl;have hcz29_2:w27.cell? ⟨gb355,2,none⟩=some (.string (⟨#[]⟩:ByteArray)):=(blk_cell BK355.out 2).trans rfl;have hfz29_0:=blk_frozen BK355.out 0;have hfz29_1:=blk_frozen BK355.out 1;have hfz29_2:=blk_frozen BK355.out 2)|((with_reducible refine gate_callee (f:=75) rfl ?_);refine goesL_ (some 25) rfl rfl Tryd.func75 (by kernel_rfl) rfl #[.pointer (some ⟨g342,0,none⟩), .int .i64 65536] rfl (by (try simp only [List.map_toArray,List.map_cons,List.map_nil]);try rfl) ?_;(with_reducible refine (code_Reader_Count.calls k1 g342 t352 t353 t354 65536 t356 t357 t358 t359 w _ ?side1 ?side2 A9.out).mono ?_);(case side1=>repeat (first|(with_reducible first|exact HI342.out|apply IsS126.alloc|apply IsS126.drewN|apply IsS126.drew|apply IsS126.set_0|apply IsS126.set_1|apply IsS126.set_2|refine IsS126.far ?_ NB342_355.out _)|exact HI342.out));(case side2=>repeat (first|(with_reducible first|exact HB.out|apply below_alloc|apply pw_below_drewN|apply below_drew1|refine below_set ?_ (IsS126.ge HI342.out)|refine below_set ?_ GE355.out)|exact HB.out));rintro e w30 ⟨rfl,hi,hb,hk⟩;refine ⟨_,rfl,?_⟩;have n0_:=Aside0.mk (Kd.R_mono (Kd.R_keep (IsS126.apart (show IsS126 w _ g342 t352 t353 t354 from by repeat (first|(with_reducible first|exact HI342.out|apply IsS126.alloc|apply IsS126.drewN|apply IsS126.drew|apply IsS126.set_0|apply IsS126.set_1|apply IsS126.set_2|refine IsS126.far ?_ NB342_355.out _)|exact HI342.out)) (by (with_reducible repeat (first|apply Kd.R_alloc|apply Kd.R_drewN|apply Kd.R_drew));exact (Kd.R_mono (Kd.R_far (p:=⟨gb355,2,none⟩) (Kd.R_far (p:=⟨gb355,1,none⟩) (Kd.R_far (p:=⟨gb355,0,none⟩) (Kd.R_mono HO_7.out (fun k_ hk=>(⟨hk,hk.2⟩:_∧k_≠gb355))) (fun _ hk=>hk.2) (.string t347)) (fun _ hk=>hk.2) (.int .i64 t351)) (fun _ hk=>hk.2) (.string (⟨#[]⟩:ByteArray))) (fun _ h_=>h_.1))) (by decide)) hk (fun _ h=>h.2)) (fun _ h=>h.1));have n1_:=Aside0.mk (Kd.R_mono (Kd.R_keep (IsS126.apart (show IsS126 w _ g342 t352 t353 t354 from by repeat (first|(with_reducible first|exact HI342.out|apply IsS126.alloc|apply IsS126.drewN|apply IsS126.drew|apply IsS126.set_0|apply IsS126.set_1|apply IsS126.set_2|refine IsS126.far ?_ NB342_355.out _)|exact HI342.out)) (by (with_reducible repeat (first|apply Kd.R_alloc|apply Kd.R_drewN|apply Kd.R_drew));exact (Kd.R_mono (Kd.R_far (p:=⟨gb355,2,none⟩) (Kd.R_far (p:=⟨gb355,1,none⟩) (Kd.R_far (p:=⟨gb355,0,none⟩) (Kd.R_types HO_8.out BK355.out (by decide)) (fun _ hk=>hk.2) (.string t347)) (fun _ hk=>hk.2) (.int .i64 t351)) (fun _ hk=>hk.2) (.string (⟨#[]⟩:ByteArray))) (fun _ h_=>h_.1))) (by decide)) hk (fun _ h=>h.2)) (fun _ h=>h.1));have n2_:=Aside0.mk (KeepBut.blk hk (g':=gb355) (o:= .cells #[.string t347, .int .i64 t351, .string (⟨#[]⟩:ByteArray)] 66 (0,0)) (by (with_reducible repeat (first|refine blk_drewN ?_ _|refine blk_drew ?_|refine blk_alloc ?_ _));refine blk_put (cs:=#[.string t347, .int .i64 t351, .string (⟨#[]⟩:ByteArray)]) ?_ 2 _ rfl;(with_reducible repeat (first|refine blk_drewN ?_ _|refine blk_drew ?_|refine blk_alloc ?_ _));refine blk_put (cs:=#[.string t347, .int .i64 0, .string (⟨#[]⟩:ByteArray)]) ?_ 1 _ rfl;(with_reducible repeat (first|refine blk_drewN ?_ _|refine blk_drew ?_|refine blk_alloc ?_ _));refine blk_put (cs:=#[.string (⟨#[]⟩:ByteArray), .int .i64 0, .string (⟨#[]⟩:ByteArray)]) ?_ 0 _ rfl;(with_reducible repeat (first|refine blk_drewN ?_ _|refine blk_drew ?_|refine blk_alloc ?_ _));exact BK355.out) NB355_342.out (by simp));have n3_:=Aside0.mk (hb);have n4_:=Aside0.mk (hi);clear HO_7;clear HO_8;clear BK355;clear HB;clear HI342;have HO_7:=n0_;have HO_8:=n1_;have BK355:=n2_;have HB:=n3_;have HI342:=n4_;clear n0_ n1_ n2_ n3_ n4_)|((with_reducible refine gate_callee (f:=78) rfl ?_);refine goesL_ (some 27) rfl rfl Tryd.func78 (by kernel_rfl) rfl #[.pointer (some ⟨g342,0,none⟩)] rfl (by (try simp only [List.map_toArray,List.map_cons,List.map_nil]);try rfl) ?_;(with_reducible refine (code_Reader_Err.calls g342 t357 t358 t359 t360 t361 t362 t363 w _ ?side1 ?side2 A10.out).mono ?_);(case side1=>repeat (first|(with_reducible first|exact HI342.out|apply IsS126.alloc|apply IsS126.drewN|apply IsS126.drew|apply IsS126.set_0|apply IsS126.set_1|apply IsS126.set_2|refine IsS126.far ?_ NB342_355.out _)|exact HI342.out));(case side2=>repeat (first|(with_reducible first|exact HB.out|apply below_alloc|apply pw_below_drewN|apply below_drew1|refine below_set ?_ (IsS126.ge HI342.out)|refine below_set ?_ GE355.out)|exact HB.out));rintro e w31 ⟨rfl,hi,hb,hk⟩;refine ⟨_,rfl,?_⟩;have n0_:=Aside0.mk (Kd.R_mono (Kd.R_keep (IsS126.apart (show IsS126 w _ g342 t357 t358 t359 from by repeat (first|(with_reducible first|exact HI342.out|apply IsS126.alloc|apply IsS126.drewN|apply IsS126.drew|apply IsS126.set_0|apply IsS126.set_1|apply IsS126.set_2|refine IsS126.far ?_ NB342_355.out _)|exact HI342.out)) (by (with_reducible repeat (first|apply Kd.R_alloc|apply Kd.R_drewN|apply Kd.R_drew));exact HO_7.out) (by decide)) hk (fun _ h=>h.2)) (fun _ h=>h.1));have n1_:=Aside0.mk (Kd.R_mono (Kd.R_keep (IsS126.apart (show IsS126 w _ g342 t357 t358 t359 from by repeat (first|(with_reducible first|exact HI342.out|apply IsS126.alloc|apply IsS126.drewN|apply IsS126.drew|apply IsS126.set_0|apply IsS126.set_1|apply IsS126.set_2|refine IsS126.far ?_ NB342_355.out _)|exact HI342.out)) (by (with_reducible repeat (first|apply Kd.R_alloc|apply Kd.R_drewN|apply Kd.R_drew));exact HO_8.out) (by decide)) hk (fun _ h=>h.2)) (fun _ h=>h.1));have n2_:=Aside0.mk (KeepBut.blk hk (g':=gb355) (o:= .cells #[.string t347, .int .i64 t351, .string (⟨#[]⟩:ByteArray)] 66 (0,0)) (by (with_reducible repeat (first|refine blk_drewN ?_ _|refine blk_drew ?_|refine blk_alloc ?_ _));exact BK355.out) NB355_342.out (by simp));have n3_:=Aside0.mk (hb);have n4_:=Aside0.mk (hi);clear HO_7;clear HO_8;clear BK355;clear HB;clear HI342;have HO_7:=n0_;have HO_8:=n1_;have BK355:=n2_;have HB:=n3_;have HI342:=n4_;clear n0_ n1_ n2_ n3_ n4_)|((with_reducible refine gate_callee (f:=78) rfl ?_);refine goesL_ (some 30) rfl rfl Tryd.func78 (by kernel_rfl) rfl #[.pointer (some ⟨g342,0,none⟩)] rfl (by (try simp only [List.map_toArray,List.map_cons,List.map_nil]);try rfl) ?_;(with_reducible refine (code_Reader_Err.calls g342 t361 t362 t363 t370 t371 t372 t373 w _ ?side1 ?side2 A24.out).mono ?_);(case side1=>repeat (first|(with_reducible first|exact HI342.out|apply IsS126.alloc|apply IsS126.drewN|apply IsS126.drew|apply IsS126.set_0|apply IsS126.set_1|apply IsS126.set_2|refine IsS126.far ?_ NB342_355.out _)|exact HI342.out));(case side2=>repeat (first|(with_reducible first|exact HB.out|apply below_alloc|apply pw_below_drewN|apply below_drew1|refine below_set ?_ (IsS126.ge HI342.out)|refine below_set ?_ GE355.out)|exact HB.out));rintro e w32 ⟨rfl,hi,hb,hk⟩;refine ⟨_,rfl,?_⟩;have n0_:=Aside0.mk (Kd.R_mono (Kd.R_keep (IsS126.apart (show IsS126 w _ g342 t361 t362 t363 from by repeat (first|(with_reducible first|exact HI342.out|apply IsS126.alloc|apply IsS126.drewN|apply IsS126.drew|apply IsS126.set_0|apply IsS126.set_1|apply IsS126.set_2|refine IsS126.far ?_ NB342_355.out _)|exact HI342.out)) (by (with_reducible repeat (first|apply Kd.R_alloc|apply Kd.R_drewN|apply Kd.R_drew));exact HO_7.out) (by decide)) hk (fun _ h=>h.2)) (fun _ h=>h.1));have n1_:=Aside0.mk (Kd.R_mono (Kd.R_keep (IsS126.apart (show IsS126 w _ g342 t361 t362 t363 from by repeat (first|(with_reducible first|exact HI342.out|apply IsS126.alloc|apply IsS126.drewN|apply IsS126.drew|apply IsS126.set_0|apply IsS126.set_1|apply IsS126.set_2|refine IsS126.far ?_ NB342_355.out _)|exact HI342.out)) (by (with_reducible repeat (first|apply Kd.R_alloc|apply Kd.R_drewN|apply Kd.R_drew));exact HO_8.out) (by decide)) hk (fun _ h=>h.2)) (fun _ h=>h.1));have n2_:=Aside0.mk (KeepBut.blk hk (g':=gb355) (o:= .cells #[.string t347, .int .i64 t351, .string (⟨#[]⟩:ByteArray)] 66 (0,0)) (by (with_reducible repeat (first|refine blk_drewN ?_ _|refine blk_drew ?_|refine blk_alloc ?_ _));exact BK355.out) NB355_342.out (by simp));have n3_:=Aside0.mk (hb);have n4_:=Aside0.mk (hi);clear HO_7;clear HO_8;clear BK355;clear HB;clear HI342;have HO_7:=n0_;have HO_8:=n1_;have BK355:=n2_;have HB:=n3_;have HI342:=n4_;clear n0_ n1_ n2_ n3_ n4_))
     refine bodyPost_ret (results_list (rs:=[.tmp 2, .tmp 3, .tmp 4, .tmp 5]) rfl (by simp) (.tmp (.tmp (.tmp (.tmp .nil))))) rfl ?_
     exact ⟨_,_,by first|rfl|(simp [errW_none]<;>rfl)|(simp [*]<;>rfl),by first|exact Kd.R_nil _ _ _ _ _|exact Kd.N_nil _ _ _ _ _|exact Kd.V_nil _ _ _ _ _|exact Kd.Q_nil _ _ _ _ _|exact Kd.S_nil _ _ _ _ _,by first|exact Kd.R_nil _ _ _ _ _|exact Kd.N_nil _ _ _ _ _|exact Kd.V_nil _ _ _ _ _|exact Kd.Q_nil _ _ _ _ _|exact Kd.S_nil _ _ _ _ _,by repeat (first|(with_reducible first|exact HB.out|apply below_alloc|apply pw_below_drewN|apply below_drew1|refine below_set ?_ (IsS126.ge HI342.out)|refine below_set ?_ GE355.out)|exact HB.out)⟩
   ·rw [if_neg c6] at H
    have c6b0:decide (x17_1 < t343)=false:=decide_eq_false c6
    clear c6
    replace H:=Option.bind_eq_some_iff.mp H
    obtain ⟨⟨t374,t375,t376,t377⟩,A330,H⟩:=H
    replace H:(if t374=0 then ((tree_Check.f k1 x7_1).bind fun t378=>(if t378=0 then ((code_Reader_Left.f t375 t376 t377).bind fun bt379=>(some (x7_1,x8_1,wrap64 ((a0.size:Int) - bt379.1),0))) else (some (([]:List (S66)),([]:List Int),0,t378)))) else (some (([]:List (S66)),([]:List Int),0,t374)))=some (r1,r2,r3,r4):=H
    have A33:=Aside0.mk A330
    clear A330
    by_cases c34:t374=0
    ·rw [if_pos c34] at H
     have c34b0:(t374 == 0)=true:=beq_iff_eq.mpr c34
     have c34b1:(t374 != 0)=false:=bne_eq_false_iff_eq.mpr c34
     clear c34
     replace H:=Option.bind_eq_some_iff.mp H
     obtain ⟨t378,A350,H⟩:=H
     replace H:(if t378=0 then ((code_Reader_Left.f t375 t376 t377).bind fun bt379=>(some (x7_1,x8_1,wrap64 ((a0.size:Int) - bt379.1),0))) else (some (([]:List (S66)),([]:List Int),0,t378)))=some (r1,r2,r3,r4):=H
     have A35:=Aside0.mk A350
     clear A350
     by_cases c36:t378=0
     ·rw [if_pos c36] at H
      have c36b0:(t378 == 0)=true:=beq_iff_eq.mpr c36
      have c36b1:(t378 != 0)=false:=bne_eq_false_iff_eq.mpr c36
      clear c36
      replace H:=Option.bind_eq_some_iff.mp H
      obtain ⟨⟨t379,t380,t381,t382⟩,A370,H⟩:=H
      replace H:(some (x7_1,x8_1,wrap64 ((a0.size:Int) - t379),0))=some (r1,r2,r3,r4):=H
      have A37:=Aside0.mk A370
      clear A370
      simp only [Option.some.injEq,Prod.mk.injEq] at H
      obtain ⟨rfl,rfl,rfl,rfl⟩:=H
      go_wp2_with (first|((with_reducible refine gate_callee (f:=78) rfl ?_);refine goesL_ (some 41) rfl rfl Tryd.func78 (by kernel_rfl) rfl #[.pointer (some ⟨g342,0,none⟩)] rfl (by (try simp only [List.map_toArray,List.map_cons,List.map_nil]);try rfl) ?_;(with_reducible refine (code_Reader_Err.calls g342 x343000_1 x343001_1 x343002_1 t374 t375 t376 t377 w _ ?side1 ?side2 A33.out).mono ?_);(case side1=>repeat (first|(with_reducible first|exact HI342.out|apply IsS126.alloc|apply IsS126.drewN|apply IsS126.drew|apply IsS126.set_0|apply IsS126.set_1|apply IsS126.set_2)|exact HI342.out));(case side2=>repeat (first|(with_reducible first|exact HB.out|apply below_alloc|apply pw_below_drewN|apply below_drew1|refine below_set ?_ (IsS126.ge HI342.out))|exact HB.out));rintro e w38 ⟨rfl,hi,hb,hk⟩;refine ⟨_,rfl,?_⟩;have n0_:=Aside0.mk (Kd.R_mono (Kd.R_keep (IsS126.apart (show IsS126 w _ g342 x343000_1 x343001_1 x343002_1 from by repeat (first|(with_reducible first|exact HI342.out|apply IsS126.alloc|apply IsS126.drewN|apply IsS126.drew|apply IsS126.set_0|apply IsS126.set_1|apply IsS126.set_2)|exact HI342.out)) (by (with_reducible repeat (first|apply Kd.R_alloc|apply Kd.R_drewN|apply Kd.R_drew));exact HO_7.out) (by decide)) hk (fun _ h=>h.2)) (fun _ h=>h.1));have n1_:=Aside0.mk (Kd.R_mono (Kd.R_keep (IsS126.apart (show IsS126 w _ g342 x343000_1 x343001_1 x343002_1 from by repeat (first|(with_reducible first|exact HI342.out|apply IsS126.alloc|apply IsS126.drewN|apply IsS126.drew|apply IsS126.set_0|apply IsS126.set_1|apply IsS126.set_2)|exact HI342.out)) (by (with_reducible repeat (first|apply Kd.R_alloc|apply Kd.R_drewN|apply Kd.R_drew));exact HO_8.out) (by decide)) hk (fun _ h=>h.2)) (fun _ h=>h.1));have n2_:=Aside0.mk (hb);have n3_:=Aside0.mk (hi);clear HO_7;clear HO_8;clear HB;clear HI342;have HO_7:=n0_;have HO_8:=n1_;have HB:=n2_;have HI342:=n3_;clear n0_ n1_ n2_ n3_;obtain ⟨Ao39,co39,eo39⟩:=Kd.R_slice HO_7.out;subst eo39)|((with_reducible refine gate_callee (f:=46) rfl ?_);refine goesL_ (some 46) rfl rfl Tryd.func46 (by kernel_rfl) rfl #[.slice Ao39 x7_1.length co39] rfl (by (try simp only [List.map_toArray,List.map_cons,List.map_nil]);try rfl) ?_;(with_reducible refine (tree_Check.calls k1 _ _ x7_1 t378 _ ?side1 ?side2 A35.out).mono ?_);(case side1=>repeat (first|exact (Kd.R_reads' HO_7.out).2.2|(with_reducible refine Kd.C_alloc ?_ _)|(with_reducible refine Kd.C_drewN ?_ _)|(with_reducible refine Kd.C_drew ?_)));(case side2=>exact (Kd.R_reads' HO_7.out).2.1);rintro e w40 ⟨rfl,hb⟩;refine ⟨_,rfl,?_⟩;have n0_:=Aside0.mk (Kd.R_below (by (with_reducible repeat (first|apply Kd.R_alloc|apply Kd.R_drewN|apply Kd.R_drew));exact HO_7.out) hb);have n1_:=Aside0.mk (Kd.R_below (by (with_reducible repeat (first|apply Kd.R_alloc|apply Kd.R_drewN|apply Kd.R_drew));exact HO_8.out) hb);have n2_:=Aside0.mk (IsS126.below (by repeat (first|(with_reducible first|exact HI342.out|apply IsS126.alloc|apply IsS126.drewN|apply IsS126.drew|apply IsS126.set_0|apply IsS126.set_1|apply IsS126.set_2)|exact HI342.out)) hb);have n3_:=Aside0.mk (below_step (by repeat (first|(with_reducible first|exact HB.out|apply below_alloc|apply pw_below_drewN|apply below_drew1|refine below_set ?_ (IsS126.ge HI342.out))|exact HB.out)) hb);clear HO_7;clear HO_8;clear HI342;clear HB;have HO_7:=n0_;have HO_8:=n1_;have HI342:=n2_;have HB:=n3_;clear n0_ n1_ n2_ n3_)|((with_reducible refine gate_callee (f:=79) rfl ?_);refine goesL_ (some 55) rfl rfl Tryd.func79 (by kernel_rfl) rfl #[.pointer (some ⟨g342,0,none⟩)] rfl (by (try simp only [List.map_toArray,List.map_cons,List.map_nil]);try rfl) ?_;(with_reducible refine (code_Reader_Left.calls g342 t375 t376 t377 t379 t380 t381 t382 w _ ?side1 ?side2 A37.out).mono ?_);(case side1=>repeat (first|(with_reducible first|exact HI342.out|apply IsS126.alloc|apply IsS126.drewN|apply IsS126.drew|apply IsS126.set_0|apply IsS126.set_1|apply IsS126.set_2)|exact HI342.out));(case side2=>repeat (first|(with_reducible first|exact HB.out|apply below_alloc|apply pw_below_drewN|apply below_drew1|refine below_set ?_ (IsS126.ge HI342.out))|exact HB.out));rintro e w41 ⟨rfl,hi,hb,hk⟩;refine ⟨_,rfl,?_⟩;have n0_:=Aside0.mk (Kd.R_mono (Kd.R_keep (IsS126.apart (show IsS126 w _ g342 t375 t376 t377 from by repeat (first|(with_reducible first|exact HI342.out|apply IsS126.alloc|apply IsS126.drewN|apply IsS126.drew|apply IsS126.set_0|apply IsS126.set_1|apply IsS126.set_2)|exact HI342.out)) (by (with_reducible repeat (first|apply Kd.R_alloc|apply Kd.R_drewN|apply Kd.R_drew));exact HO_7.out) (by decide)) hk (fun _ h=>h.2)) (fun _ h=>h.1));have n1_:=Aside0.mk (Kd.R_mono (Kd.R_keep (IsS126.apart (show IsS126 w _ g342 t375 t376 t377 from by repeat (first|(with_reducible first|exact HI342.out|apply IsS126.alloc|apply IsS126.drewN|apply IsS126.drew|apply IsS126.set_0|apply IsS126.set_1|apply IsS126.set_2)|exact HI342.out)) (by (with_reducible repeat (first|apply Kd.R_alloc|apply Kd.R_drewN|apply Kd.R_drew));exact HO_8.out) (by decide)) hk (fun _ h=>h.2)) (fun _ h=>h.1));have n2_:=Aside0.mk (hb);have n3_:=Aside0.mk (hi);clear HO_7;clear HO_8;clear HB;clear HI342;have HO_7:=n0_;have HO_8:=n1_;have HB:=n2_;have HI342:=n3_;clear n0_ n1_ n2_ n3_))
      refine bodyPost_ret (results_list (rs:=[.tmp 2, .tmp 3, .tmp 4, .tmp 5]) rfl (by simp) (.tmp (.tmp (.tmp (.tmp .nil))))) rfl ?_
      exact ⟨_,_,by first|rfl|(simp [errW_none]<;>rfl)|(simp [*]<;>rfl),by (with_reducible repeat (first|apply Kd.R_alloc|apply Kd.R_drewN|apply Kd.R_drew));exact HO_7.out,by (with_reducible repeat (first|apply Kd.R_alloc|apply Kd.R_drewN|apply Kd.R_drew));exact HO_8.out,by repeat (first|(with_reducible first|exact HB.out|apply below_alloc|apply pw_below_drewN|apply below_drew1|refine below_set ?_ (IsS126.ge HI342.out))|exact HB.out)⟩
     ·rw [if_neg c36] at H
      have c36b0:(t378 == 0)=false:=beq_eq_false_iff_ne.mpr c36
      have c36b1:(t378 != 0)=true:=bne_iff_ne.mpr c36
      simp only [Option.some.injEq,Prod.mk.injEq] at H
      obtain ⟨rfl,rfl,rfl,rfl⟩:=H
      go_wp2_with (first|((with_reducible refine gate_callee (f:=78) rfl ?_);refine goesL_ (some 41) rfl rfl Tryd.func78 (by kernel_rfl) rfl #[.pointer (some ⟨g342,0,none⟩)] rfl (by (try simp only [List.map_toArray,List.map_cons,List.map_nil]);try rfl) ?_;(with_reducible refine (code_Reader_Err.calls g342 x343000_1 x343001_1 x343002_1 t374 t375 t376 t377 w _ ?side1 ?side2 A33.out).mono ?_);(case side1=>repeat (first|(with_reducible first|exact HI342.out|apply IsS126.alloc|apply IsS126.drewN|apply IsS126.drew|apply IsS126.set_0|apply IsS126.set_1|apply IsS126.set_2)|exact HI342.out));(case side2=>repeat (first|(with_reducible first|exact HB.out|apply below_alloc|apply pw_below_drewN|apply below_drew1|refine below_set ?_ (IsS126.ge HI342.out))|exact HB.out));rintro e w42 ⟨rfl,hi,hb,hk⟩;refine ⟨_,rfl,?_⟩;have n0_:=Aside0.mk (Kd.R_mono (Kd.R_keep (IsS126.apart (show IsS126 w _ g342 x343000_1 x343001_1 x343002_1 from by repeat (first|(with_reducible first|exact HI342.out|apply IsS126.alloc|apply IsS126.drewN|apply IsS126.drew|apply IsS126.set_0|apply IsS126.set_1|apply IsS126.set_2)|exact HI342.out)) (by (with_reducible repeat (first|apply Kd.R_alloc|apply Kd.R_drewN|apply Kd.R_drew));exact HO_7.out) (by decide)) hk (fun _ h=>h.2)) (fun _ h=>h.1));have n1_:=Aside0.mk (Kd.R_mono (Kd.R_keep (IsS126.apart (show IsS126 w _ g342 x343000_1 x343001_1 x343002_1 from by repeat (first|(with_reducible first|exact HI342.out|apply IsS126.alloc|apply IsS126.drewN|apply IsS126.drew|apply IsS126.set_0|apply IsS126.set_1|apply IsS126.set_2)|exact HI342.out)) (by (with_reducible repeat (first|apply Kd.R_alloc|apply Kd.R_drewN|apply Kd.R_drew));exact HO_8.out) (by decide)) hk (fun _ h=>h.2)) (fun _ h=>h.1));have n2_:=Aside0.mk (hb);have n3_:=Aside0.mk (hi);clear HO_7;clear HO_8;clear HB;clear HI342;have HO_7:=n0_;have HO_8:=n1_;have HB:=n2_;have HI342:=n3_;clear n0_ n1_ n2_ n3_;obtain ⟨Ao43,co43,eo43⟩:=Kd.R_slice HO_7.out;subst eo43)|((with_reducible refine gate_callee (f:=46) rfl ?_);refine goesL_ (some 46) rfl rfl Tryd.func46 (by kernel_rfl) rfl #[.slice Ao43 x7_1.length co43] rfl (by (try simp only [List.map_toArray,List.map_cons,List.map_nil]);try rfl) ?_;(with_reducible refine (tree_Check.calls k1 _ _ x7_1 t378 _ ?side1 ?side2 A35.out).mono ?_);(case side1=>repeat (first|exact (Kd.R_reads' HO_7.out).2.2|(with_reducible refine Kd.C_alloc ?_ _)|(with_reducible refine Kd.C_drewN ?_ _)|(with_reducible refine Kd.C_drew ?_)));(case side2=>exact (Kd.R_reads' HO_7.out).2.1);rintro e w44 ⟨rfl,hb⟩;refine ⟨_,rfl,?_⟩;have n0_:=Aside0.mk (Kd.R_below (by (with_reducible repeat (first|apply Kd.R_alloc|apply Kd.R_drewN|apply Kd.R_drew));exact HO_7.out) hb);have n1_:=Aside0.mk (Kd.R_below (by (with_reducible repeat (first|apply Kd.R_alloc|apply Kd.R_drewN|apply Kd.R_drew));exact HO_8.out) hb);have n2_:=Aside0.mk (IsS126.below (by repeat (first|(with_reducible first|exact HI342.out|apply IsS126.alloc|apply IsS126.drewN|apply IsS126.drew|apply IsS126.set_0|apply IsS126.set_1|apply IsS126.set_2)|exact HI342.out)) hb);have n3_:=Aside0.mk (below_step (by repeat (first|(with_reducible first|exact HB.out|apply below_alloc|apply pw_below_drewN|apply below_drew1|refine below_set ?_ (IsS126.ge HI342.out))|exact HB.out)) hb);clear HO_7;clear HO_8;clear HI342;clear HB;have HO_7:=n0_;have HO_8:=n1_;have HI342:=n2_;have HB:=n3_;clear n0_ n1_ n2_ n3_))
      refine bodyPost_ret (results_list (rs:=[.tmp 2, .tmp 3, .tmp 4, .tmp 5]) rfl (by simp) (.tmp (.tmp (.tmp (.tmp .nil))))) rfl ?_
      exact ⟨_,_,by first|rfl|(simp [errW_none]<;>rfl)|(simp [*]<;>rfl),by first|exact Kd.R_nil _ _ _ _ _|exact Kd.N_nil _ _ _ _ _|exact Kd.V_nil _ _ _ _ _|exact Kd.Q_nil _ _ _ _ _|exact Kd.S_nil _ _ _ _ _,by first|exact Kd.R_nil _ _ _ _ _|exact Kd.N_nil _ _ _ _ _|exact Kd.V_nil _ _ _ _ _|exact Kd.Q_nil _ _ _ _ _|exact Kd.S_nil _ _ _ _ _,by repeat (first|(with_reducible first|exact HB.out|apply below_alloc|apply pw_below_drewN|apply below_drew1|refine below_set ?_ (IsS126.ge HI342.out))|exact HB.out)⟩
    ·rw [if_neg c34] at H
     have c34b0:(t374 == 0)=false:=beq_eq_false_iff_ne.mpr c34
     have c34b1:(t374 != 0)=true:=bne_iff_ne.mpr c34
     simp only [Option.some.injEq,Prod.mk.injEq] at H
     obtain ⟨rfl,rfl,rfl,rfl⟩:=H
     go_wp2_with (first|((with_reducible refine gate_callee (f:=78) rfl ?_);refine goesL_ (some 41) rfl rfl Tryd.func78 (by kernel_rfl) rfl #[.pointer (some ⟨g342,0,none⟩)] rfl (by (try simp only [List.map_toArray,List.map_cons,List.map_nil]);try rfl) ?_;(with_reducible refine (code_Reader_Err.calls g342 x343000_1 x343001_1 x343002_1 t374 t375 t376 t377 w _ ?side1 ?side2 A33.out).mono ?_);(case side1=>repeat (first|(with_reducible first|exact HI342.out|apply IsS126.alloc|apply IsS126.drewN|apply IsS126.drew|apply IsS126.set_0|apply IsS126.set_1|apply IsS126.set_2)|exact HI342.out));(case side2=>repeat (first|(with_reducible first|exact HB.out|apply below_alloc|apply pw_below_drewN|apply below_drew1|refine below_set ?_ (IsS126.ge HI342.out))|exact HB.out));rintro e w45 ⟨rfl,hi,hb,hk⟩;refine ⟨_,rfl,?_⟩;have n0_:=Aside0.mk (Kd.R_mono (Kd.R_keep (IsS126.apart (show IsS126 w _ g342 x343000_1 x343001_1 x343002_1 from by repeat (first|(with_reducible first|exact HI342.out|apply IsS126.alloc|apply IsS126.drewN|apply IsS126.drew|apply IsS126.set_0|apply IsS126.set_1|apply IsS126.set_2)|exact HI342.out)) (by (with_reducible repeat (first|apply Kd.R_alloc|apply Kd.R_drewN|apply Kd.R_drew));exact HO_7.out) (by decide)) hk (fun _ h=>h.2)) (fun _ h=>h.1));have n1_:=Aside0.mk (Kd.R_mono (Kd.R_keep (IsS126.apart (show IsS126 w _ g342 x343000_1 x343001_1 x343002_1 from by repeat (first|(with_reducible first|exact HI342.out|apply IsS126.alloc|apply IsS126.drewN|apply IsS126.drew|apply IsS126.set_0|apply IsS126.set_1|apply IsS126.set_2)|exact HI342.out)) (by (with_reducible repeat (first|apply Kd.R_alloc|apply Kd.R_drewN|apply Kd.R_drew));exact HO_8.out) (by decide)) hk (fun _ h=>h.2)) (fun _ h=>h.1));have n2_:=Aside0.mk (hb);have n3_:=Aside0.mk (hi);clear HO_7;clear HO_8;clear HB;clear HI342;have HO_7:=n0_;have HO_8:=n1_;have HB:=n2_;have HI342:=n3_;clear n0_ n1_ n2_ n3_))
     refine bodyPost_ret (results_list (rs:=[.tmp 2, .tmp 3, .tmp 4, .tmp 5]) rfl (by simp) (.tmp (.tmp (.tmp (.tmp .nil))))) rfl ?_
     exact ⟨_,_,by first|rfl|(simp [errW_none]<;>rfl)|(simp [*]<;>rfl),by first|exact Kd.R_nil _ _ _ _ _|exact Kd.N_nil _ _ _ _ _|exact Kd.V_nil _ _ _ _ _|exact Kd.Q_nil _ _ _ _ _|exact Kd.S_nil _ _ _ _ _,by first|exact Kd.R_nil _ _ _ _ _|exact Kd.N_nil _ _ _ _ _|exact Kd.V_nil _ _ _ _ _|exact Kd.Q_nil _ _ _ _ _|exact Kd.S_nil _ _ _ _ _,by repeat (first|(with_reducible first|exact HB.out|apply below_alloc|apply pw_below_drewN|apply below_drew1|refine below_set ?_ (IsS126.ge HI342.out))|exact HB.out)⟩
end Go.Proofs.YthejnffhfmdpnaaDoor.Q

end

section
namespace Go.Proofs.YthejnffhfmdpnaaDoor.Q
open Go.RowKit Go.Proofs.YthejnffhfmdpnaaDoorW.PrintWords Go.Proofs.YthejnffhfmdpnaaDoorW.PrintLast Go.Proofs.YthejnffhfmdpnaaDoorW.PrintMore
attribute [local go_sem] min2_int min_two
set_option linter.unusedVariables false
set_option linter.unusedSimpArgs false
def image_Tree.l0:Nat→ByteArray→List (S66)→Int→List Int→Int→Int→Option ((List (S66)) × Int)
 |0,_,_,_,_,_,_=>none
 |k+1,x0,x4,x6,x23,x24,x25=>if x25 < x24 then (if 0≤x25 then (if x25 < (x23.length:Int) then (if (rd x23 x25) > (wrap64 ((x0.size:Int) - x6)) then (some (([]:List (S66)),3)) else (if 0≤x6 then (if x6≤(wrap64 (x6+(rd x23 x25))) then (if (wrap64 (x6+(rd x23 x25)))≤(x0.size:Int) then (if x25 < (x4.length:Int) then (image_Tree.l0 k x0 (x4.set (x25:Int).toNat (⟨(rd_T66 x4 x25).f0,(rd_T66 x4 x25).f1,x0.extract (x6:Int).toNat ((wrap64 (x6+(rd x23 x25))):Int).toNat⟩:S66)) (wrap64 (x6+(rd x23 x25))) x23 x24 (wrap64 (x25+1))) else (none)) else (none)) else (none)) else (none))) else (none)) else (none)) else (if x6 < (x0.size:Int) then (some (([]:List (S66)),4)) else (some (x4,0)))
def image_Tree.f (k:Nat) (a0:ByteArray):Option ((List (S66)) × Int):=if (a0.size:Int) > 524288 then (some (([]:List (S66)),4)) else ((image_head.f k a0).bind fun bt383=>(if bt383.2.2.2=0 then (image_Tree.l0 k a0 bt383.1 bt383.2.2.1 bt383.2.1 (bt383.2.1.length:Int) 0) else (some (([]:List (S66)),bt383.2.2.2))))
set_option maxHeartbeats 8000000 in
set_option maxRecDepth 100000 in
theorem image_Tree.calls (k:Nat) (a0:ByteArray) (r1:List (S66)) (r2:Int) (w:World) (h:image_Tree.f k a0=some (r1,r2)):
  Calls Tryd.prog 52 #[.string a0] w fun e w'=> ∃v0_:Value,e= .returned (.tuple #[v0_, .int .i64 r2])∧Kd.R k66 66 w' w.heap.size (fun _=>True) v0_ r1∧Below w.heap.size w w':=by
 have HB:=Aside0.mk (Below.refl w.heap.size w)
 have H:(if (a0.size:Int) > 524288 then (some (([]:List (S66)),4)) else ((image_head.f k a0).bind fun bt383=>(if bt383.2.2.2=0 then (image_Tree.l0 k a0 bt383.1 bt383.2.2.1 bt383.2.1 (bt383.2.1.length:Int) 0) else (some (([]:List (S66)),bt383.2.2.2)))))=some (r1,r2):=h
 clear h
 by_cases c2:(a0.size:Int) > 524288
 ·rw [if_pos c2] at H
  have c2b0:decide (524288 < (a0.size:Int))=true:=decide_eq_true c2
  have c2b1:decide (524288 < a0.size)=true:=decide_eq_true (by omega)
  clear c2
  simp only [Option.some.injEq,Prod.mk.injEq] at H
  obtain ⟨rfl,rfl⟩:=H
  go_enter Tryd.func52,Tryd.ntmps52
  go_wp2
  go_ret2
  exact ⟨_,by first|rfl|(simp [errW_none]<;>rfl)|(simp [*]<;>rfl),by first|exact Kd.R_nil _ _ _ _ _|exact Kd.N_nil _ _ _ _ _|exact Kd.V_nil _ _ _ _ _|exact Kd.Q_nil _ _ _ _ _|exact Kd.S_nil _ _ _ _ _,by repeat (first|(with_reducible first|exact HB.out|apply below_alloc|apply pw_below_drewN|apply below_drew1)|exact HB.out)⟩
 ·rw [if_neg c2] at H
  have c2b0:decide (524288 < (a0.size:Int))=false:=decide_eq_false c2
  have c2b1:decide (524288 < a0.size)=false:=decide_eq_false (by omega)
  clear c2
  replace H:=Option.bind_eq_some_iff.mp H
  obtain ⟨⟨t383,t384,t385,t386⟩,A30,H⟩:=H
  replace H:(if t386=0 then (image_Tree.l0 k a0 t383 t385 t384 (t384.length:Int) 0) else (some (([]:List (S66)),t386)))=some (r1,r2):=H
  have A3:=Aside0.mk A30
  clear A30
  by_cases c4:t386=0
  ·rw [if_pos c4] at H
   have c4b0:(t386 == 0)=true:=beq_iff_eq.mpr c4
   have c4b1:(t386 != 0)=false:=bne_eq_false_iff_eq.mpr c4
   clear c4
   have H':=Aside0.mk H
   clear H
   go_enter Tryd.func52,Tryd.ntmps52
   go_wp2_with (first|((with_reducible refine gate_callee (f:=63) rfl ?_);refine goesL_ (some 15) rfl rfl Tryd.func63 (by kernel_rfl) rfl #[.string a0] rfl (by (try simp only [List.map_toArray,List.map_cons,List.map_nil]);try rfl) ?_;(with_reducible refine (image_head.calls k a0 t383 t384 t385 t386 _ A3.out).mono ?_);rintro e w5 ⟨v387,v389,rfl,ho0,ho1,hb⟩;refine ⟨_,rfl,?_⟩;have n0_:=Aside0.mk (Kd.R_lower ho0 (below_size (by repeat (first|(with_reducible first|exact HB.out|apply below_alloc|apply pw_below_drewN|apply below_drew1)|exact HB.out))));have n1_:=Aside0.mk (Kd.R_lower ho1 (below_size (by repeat (first|(with_reducible first|exact HB.out|apply below_alloc|apply pw_below_drewN|apply below_drew1)|exact HB.out))));have n2_:=Aside0.mk (below_step (by repeat (first|(with_reducible first|exact HB.out|apply below_alloc|apply pw_below_drewN|apply below_drew1)|exact HB.out)) hb);clear HB;have HO388:=n0_;have HO390:=n1_;have HB:=n2_;clear n0_ n1_ n2_;obtain ⟨Ao6,co6,eo6⟩:=Kd.R_slice HO390.out;subst eo6))
   go_loopg [6,25] k (fun kq v6 v25 w'=> ∃(x4_1:List (S66)) (x6_1:Int) (x25_1:Int),v6= .int .i64 x6_1∧v25= .int .i64 x25_1∧Aside0 (image_Tree.l0 kq a0 x4_1 x6_1 t384 (t384.length:Int) x25_1=some (r1,r2))∧Aside0 (kq≤k)∧Aside0 (Kd.R k66 66 w' w.heap.size (fun _=>True) v387 x4_1)∧Aside0 (Kd.R (Kd.int .i64) 3 w' w.heap.size (fun _=>True) (.slice Ao6 t384.length co6) t384)∧Aside0 (Below w.heap.size w w'))
   case atStart=>exact ⟨(t383),(t385),(0),(by first|rfl|(simp;done)|(simp [*];done)),(by first|rfl|(simp;done)|(simp [*];done)),H',⟨Nat.le_refl _⟩,⟨by (with_reducible repeat (first|apply Kd.R_alloc|apply Kd.R_drewN|apply Kd.R_drew));exact HO388.out⟩,⟨by (with_reducible repeat (first|apply Kd.R_alloc|apply Kd.R_drewN|apply Kd.R_drew));exact HO390.out⟩,⟨by repeat (first|(with_reducible first|exact HB.out|apply below_alloc|apply pw_below_drewN|apply below_drew1)|exact HB.out)⟩⟩
   case round=>
    clear H'
    obtain ⟨x4_1,x6_1,x25_1,rfl,rfl,HA,HK1,HO_4,HO_23,HB⟩:=hrel
    cases gk with
    |zero=>exact absurd HA.out (by simp [image_Tree.l0])
    |succ k1=>
     have H:=HA.out
     clear HA
     simp only [image_Tree.l0] at H
     by_cases c7:x25_1 < (t384.length:Int)
     ·rw [if_pos c7] at H
      have c7b0:decide (x25_1 < (t384.length:Int))=true:=decide_eq_true c7
      clear c7
      by_cases c8:0≤x25_1
      ·rw [if_pos c8] at H
       have c8b0:decide (0≤x25_1)=true:=decide_eq_true c8
       clear c8
       by_cases c9:x25_1 < (t384.length:Int)
       ·rw [if_pos c9] at H
        have c9b0:decide (x25_1 < (t384.length:Int))=true:=decide_eq_true c9
        clear c9
        by_cases c10:(rd t384 x25_1) > (wrap64 ((a0.size:Int) - x6_1))
        ·rw [if_pos c10] at H
         have c10b0:decide ((wrap64 ((a0.size:Int) - x6_1)) < (rd t384 x25_1))=true:=decide_eq_true c10
         clear c10
         simp only [Option.some.injEq,Prod.mk.injEq] at H
         obtain ⟨rfl,rfl⟩:=H
         have p391:0≤(x25_1:Int):=of_decide_eq_true (by assumption)
         have q391:x25_1 < (t384.length:Int):=of_decide_eq_true (by assumption)
         obtain ⟨ad391,e391,hx391_0⟩:=Kd.at_int (Kd.R_reads' HO_23.out).2.2 x25_1 p391 q391
         cases e391
         replace p391:=eq_true p391
         replace q391:=eq_true q391
         go_wp2
         go_ret2
         exact ⟨_,by first|rfl|(simp [errW_none]<;>rfl)|(simp [*]<;>rfl),by first|exact Kd.R_nil _ _ _ _ _|exact Kd.N_nil _ _ _ _ _|exact Kd.V_nil _ _ _ _ _|exact Kd.Q_nil _ _ _ _ _|exact Kd.S_nil _ _ _ _ _,by repeat (first|(with_reducible first|exact HB.out|apply below_alloc|apply pw_below_drewN|apply below_drew1)|exact HB.out)⟩
        ·rw [if_neg c10] at H
         have c10b0:decide ((wrap64 ((a0.size:Int) - x6_1)) < (rd t384 x25_1))=false:=decide_eq_false c10
         clear c10
         by_cases c11:0≤x6_1
         ·rw [if_pos c11] at H
          have c11b0:=eq_true c11
          have c11b1:decide (0≤x6_1)=true:=decide_eq_true c11
          clear c11
          by_cases c12:x6_1≤(wrap64 (x6_1+(rd t384 x25_1)))
          ·rw [if_pos c12] at H
           have c12b0:=eq_true c12
           have c12b1:decide (x6_1≤(wrap64 (x6_1+(rd t384 x25_1))))=true:=decide_eq_true c12
           by_cases c13:(wrap64 (x6_1+(rd t384 x25_1)))≤(a0.size:Int)
           ·rw [if_pos c13] at H
            have c13b0:=eq_true c13
            have c13b1:decide ((wrap64 (x6_1+(rd t384 x25_1)))≤(a0.size:Int))=true:=decide_eq_true c13
            by_cases c14:x25_1 < (x4_1.length:Int)
            ·rw [if_pos c14] at H
             have c14b0:decide (x25_1 < (x4_1.length:Int))=true:=decide_eq_true c14
             clear c14
             obtain ⟨y392,hy392⟩: ∃y_:List (S66),y_=(x4_1.set (x25_1:Int).toNat (⟨(rd_T66 x4_1 x25_1).f0,(rd_T66 x4_1 x25_1).f1,a0.extract (x6_1:Int).toNat ((wrap64 (x6_1+(rd t384 x25_1))):Int).toNat⟩:S66)):=⟨_,rfl⟩
             replace H:(image_Tree.l0 k1 a0 y392 (wrap64 (x6_1+(rd t384 x25_1))) t384 (t384.length:Int) (wrap64 (x25_1+1)))=some (r1,r2):=by first|(rw [hy392];with_reducible exact H)|(have H2_:=(Option.bind_some _ _).symm.trans H;rw [hy392];with_reducible exact H2_)|(have H2_:=(Option.bind_some _ _).symm.trans H;with_reducible exact H2_)|with_reducible exact H|(rw [hy392];exact H)|exact H
             have Ny392:=Aside0.mk hy392
             clear hy392
             have H':=Aside0.mk H
             clear H
             have p391:0≤(x25_1:Int):=of_decide_eq_true (by assumption)
             have q391:x25_1 < (t384.length:Int):=of_decide_eq_true (by assumption)
             obtain ⟨ad391,e391,hx391_0⟩:=Kd.at_int (Kd.R_reads' HO_23.out).2.2 x25_1 p391 q391
             cases e391
             replace p391:=eq_true p391
             replace q391:=eq_true q391
             have p15:0≤(x25_1:Int):=of_decide_eq_true (by assumption)
             have q15:(x25_1:Int) < ((x4_1.length:Int):Int):=of_decide_eq_true (by assumption)
             obtain ⟨go15,co15,eo15,gb15,gl15,cl15,HG15⟩:=Kd.R_form HO_4.out (by omega)
             (first|cases eo15|(injection eo15 with ea_ en_ ec_;(first|subst ea_|(injection ea_ with ea_;subst ea_));subst ec_;clear en_))
             have GB15:=Aside0.mk gb15
             have GG15:=Aside0.mk HG15
             clear gb15 gl15 HG15
             obtain ⟨ce15,hcl15,hM15,hcc15,hfr15⟩:=Kd.R_elem HO_4.out z66 (x25_1:Int) p15 q15
             obtain rfl:=k66_openM hM15
             have hx15_0:wr.cell? ⟨go15,(x25_1:Int).toNat*3,none⟩=some (.string ((rd_T66 x4_1 x25_1).f0)):=hcc15 0 _ rfl
             have hx15_1:wr.cell? ⟨go15,(x25_1:Int).toNat*3+1,none⟩=some (.int .i64 ((rd_T66 x4_1 x25_1).f1)):=hcc15 1 _ rfl
             have hx15_2:wr.cell? ⟨go15,(x25_1:Int).toNat*3+2,none⟩=some (.string ((rd_T66 x4_1 x25_1).f2)):=hcc15 2 _ rfl
             have hf15_0:wr.frozen? ⟨go15,(x25_1:Int).toNat*3,none⟩=false:=hfr15 0
             have hf15_1:wr.frozen? ⟨go15,(x25_1:Int).toNat*3+1,none⟩=false:=hfr15 1
             have hf15_2:wr.frozen? ⟨go15,(x25_1:Int).toNat*3+2,none⟩=false:=hfr15 2
             clear hcl15 hcc15 hfr15 hM15
             replace p15:=eq_true p15
             replace q15:=eq_true q15
             have HX16:=Aside0.mk (show Kd.R k66 66 wr w.heap.size (fun _=>True) (.slice (some ⟨go15,0,none⟩) x4_1.length co15) x4_1 from (by (with_reducible repeat (first|apply Kd.R_alloc|apply Kd.R_drewN|apply Kd.R_drew));exact HO_4.out))
             obtain ⟨ce16,hcl16,hM16,hcc16,hfr16⟩:=Kd.R_elem HX16.out z66 (x25_1:Int) (of_decide_eq_true (by assumption)) (by have h_:(x25_1:Int) < ((x4_1.length:Int):Int):=of_decide_eq_true (by assumption);first|exact h_|(have e_:=(Kd.R_reads' HO_4.out).1;omega)|simpa using h_)
             obtain rfl:=k66_openM hM16
             have HP16:=Kd.R_seg HX16.out (x25_1:Int) (of_decide_eq_true (by assumption)) (by have h_:(x25_1:Int) < ((x4_1.length:Int):Int):=of_decide_eq_true (by assumption);first|exact h_|(have e_:=(Kd.R_reads' HO_4.out).1;omega)|simpa using h_) (seg:=[.string (a0.extract (x6_1:Int).toNat ((wrap64 (x6_1+(rd t384 x25_1))):Int).toNat)]) (j:=2) hcl16 hcc16 (show 3≤3 from by decide) (x':=(⟨(rd_T66 x4_1 x25_1).f0,(rd_T66 x4_1 x25_1).f1,a0.extract (x6_1:Int).toNat ((wrap64 (x6_1+(rd t384 x25_1))):Int).toNat⟩:S66)) (k66_mkM _ _ _ (⟨(rd_T66 x4_1 x25_1).f0,(rd_T66 x4_1 x25_1).f1,a0.extract (x6_1:Int).toNat ((wrap64 (x6_1+(rd t384 x25_1))):Int).toNat⟩:S66)) (fun _ hk=>hk)
             have hx16_2:=hcc16 2 _ rfl
             (try simp only [show (k66).sz=3 from rfl,Nat.mul_one,Nat.add_zero] at hx16_2)
             have hf16_2:=hfr16 2
             (try simp only [show (k66).sz=3 from rfl,Nat.mul_one,Nat.add_zero] at hf16_2)
             clear hcl16 hcc16 hfr16 hM16
             go_wp2_with (first|((with_reducible refine gate_store (t:=9) (p:=45) rfl ?_);refine store_event (t:=9) (p:=45) (v:=?vo_w17) (w1:=(wr.setCell ⟨go15,(x25_1:Int).toNat*3+2,none⟩ (.string (a0.extract (x6_1:Int).toNat ((wrap64 (x6_1+(rd t384 x25_1))):Int).toNat)))) ?hg ?ho ?hn ?hr ?_;(case ho=>rfl);(case hg=>rfl);(case hn=>rfl);(case hr=>first|(go_simp;done)|(go_simp;rfl));intro w17 hw;have hg:wr.grownBy w17 (some go15):=(by rw [hw];exact HP16.2);have hp_:Kd.R k66 66 w17 w.heap.size (fun _=>True) (.slice (some ⟨go15,0,none⟩) x4_1.length co15) y392:=(by rw [hw,Ny392.out];exact HP16.1);clear HP16;have n0_:=Aside0.mk (hp_);have n1_:=Aside0.mk (Kd.R_over' (v:=(.slice (some ⟨go15,0,none⟩) x4_1.length co15)) (by (with_reducible repeat (first|apply Kd.R_alloc|apply Kd.R_drewN|apply Kd.R_drew));exact HO_23.out) (Kd.R_typed HO_4.out) (by decide) hg);have n2_:=Aside0.mk ((by rw [hw];exact below_set (HB.out) GB15.out:Below w.heap.size w w17));clear HO_4;clear HO_23;clear HB;have HO_4:=n0_;have HO_23:=n1_;have HB:=n2_;clear n0_ n1_ n2_;clear hg hw hp_))
             go_roundg k1
             case measure=>have:=HK1.out;omega
             case rel=>exact ⟨(y392),(wrap64 (x6_1+(rd t384 x25_1))),(wrap64 (x25_1+1)),(by first|rfl|(simp;done)|(simp [*];done)),(by first|rfl|(simp;done)|(simp [*];done)),H',⟨by have:=HK1.out;omega⟩,⟨by (with_reducible repeat (first|apply Kd.R_alloc|apply Kd.R_drewN|apply Kd.R_drew));exact HO_4.out⟩,⟨by (with_reducible repeat (first|apply Kd.R_alloc|apply Kd.R_drewN|apply Kd.R_drew));exact HO_23.out⟩,⟨by repeat (first|(with_reducible first|exact HB.out|apply below_alloc|apply pw_below_drewN|apply below_drew1)|exact HB.out)⟩⟩
            ·rw [if_neg c14] at H
             exact absurd H (by simp)
           ·rw [if_neg c13] at H
            exact absurd H (by simp)
          ·rw [if_neg c12] at H
           exact absurd H (by simp)
         ·rw [if_neg c11] at H
          exact absurd H (by simp)
       ·rw [if_neg c9] at H
        exact absurd H (by simp)
      ·rw [if_neg c8] at H
       exact absurd H (by simp)
     ·rw [if_neg c7] at H
      have c7b0:decide (x25_1 < (t384.length:Int))=false:=decide_eq_false c7
      clear c7
      by_cases c18:x6_1 < (a0.size:Int)
      ·rw [if_pos c18] at H
       have c18b0:decide (x6_1 < (a0.size:Int))=true:=decide_eq_true c18
       clear c18
       simp only [Option.some.injEq,Prod.mk.injEq] at H
       obtain ⟨rfl,rfl⟩:=H
       go_wp2
       go_ret2
       exact ⟨_,by first|rfl|(simp [errW_none]<;>rfl)|(simp [*]<;>rfl),by first|exact Kd.R_nil _ _ _ _ _|exact Kd.N_nil _ _ _ _ _|exact Kd.V_nil _ _ _ _ _|exact Kd.Q_nil _ _ _ _ _|exact Kd.S_nil _ _ _ _ _,by repeat (first|(with_reducible first|exact HB.out|apply below_alloc|apply pw_below_drewN|apply below_drew1)|exact HB.out)⟩
      ·rw [if_neg c18] at H
       have c18b0:decide (x6_1 < (a0.size:Int))=false:=decide_eq_false c18
       clear c18
       simp only [Option.some.injEq,Prod.mk.injEq] at H
       obtain ⟨rfl,rfl⟩:=H
       go_wp2
       go_ret2
       exact ⟨_,by first|rfl|(simp [errW_none]<;>rfl)|(simp [*]<;>rfl),by (with_reducible repeat (first|apply Kd.R_alloc|apply Kd.R_drewN|apply Kd.R_drew));exact HO_4.out,by repeat (first|(with_reducible first|exact HB.out|apply below_alloc|apply pw_below_drewN|apply below_drew1)|exact HB.out)⟩
  ·rw [if_neg c4] at H
   have c4b0:(t386 == 0)=false:=beq_eq_false_iff_ne.mpr c4
   have c4b1:(t386 != 0)=true:=bne_iff_ne.mpr c4
   simp only [Option.some.injEq,Prod.mk.injEq] at H
   obtain ⟨rfl,rfl⟩:=H
   go_enter Tryd.func52,Tryd.ntmps52
   go_wp2_with (first|((with_reducible refine gate_callee (f:=63) rfl ?_);refine goesL_ (some 15) rfl rfl Tryd.func63 (by kernel_rfl) rfl #[.string a0] rfl (by (try simp only [List.map_toArray,List.map_cons,List.map_nil]);try rfl) ?_;(with_reducible refine (image_head.calls k a0 t383 t384 t385 t386 _ A3.out).mono ?_);rintro e w19 ⟨v387,v389,rfl,ho0,ho1,hb⟩;refine ⟨_,rfl,?_⟩;have n0_:=Aside0.mk (Kd.R_lower ho0 (below_size (by repeat (first|(with_reducible first|exact HB.out|apply below_alloc|apply pw_below_drewN|apply below_drew1)|exact HB.out))));have n1_:=Aside0.mk (Kd.R_lower ho1 (below_size (by repeat (first|(with_reducible first|exact HB.out|apply below_alloc|apply pw_below_drewN|apply below_drew1)|exact HB.out))));have n2_:=Aside0.mk (below_step (by repeat (first|(with_reducible first|exact HB.out|apply below_alloc|apply pw_below_drewN|apply below_drew1)|exact HB.out)) hb);clear HB;have HO388:=n0_;have HO390:=n1_;have HB:=n2_;clear n0_ n1_ n2_))
   go_ret2
   exact ⟨_,by first|rfl|(simp [errW_none]<;>rfl)|(simp [*]<;>rfl),by first|exact Kd.R_nil _ _ _ _ _|exact Kd.N_nil _ _ _ _ _|exact Kd.V_nil _ _ _ _ _|exact Kd.Q_nil _ _ _ _ _|exact Kd.S_nil _ _ _ _ _,by repeat (first|(with_reducible first|exact HB.out|apply below_alloc|apply pw_below_drewN|apply below_drew1)|exact HB.out)⟩
end Go.Proofs.YthejnffhfmdpnaaDoor.Q

end

section
namespace Go.Proofs.YthejnffhfmdpnaaDoor.Q
open Go.RowKit Go.Proofs.YthejnffhfmdpnaaDoorW.PrintWords Go.Proofs.YthejnffhfmdpnaaDoorW.PrintLast Go.Proofs.YthejnffhfmdpnaaDoorW.PrintMore
attribute [local go_sem] min2_int min_two
set_option linter.unusedVariables false
set_option linter.unusedSimpArgs false
mutual
def barqueref10_Told.l0:Nat→Int→Int→ByteArray→Int→Int→List (S105)→Int→Option ((List (S105)) × Int × Int)
 |0,_,_,_,_,_,_,_=>none
 |k+1,x6,x7,x239000,x239001,x239002,x240000,x240001=>if x7 < x6 then (barqueref10_Told.j1 k x6 x7 (x239002 == 0) x239000 x239001 x239002 x240000 x240001) else (barqueref10_Told.j1 k x6 x7 false x239000 x239001 x239002 x240000 x240001)
def barqueref10_Told.j1:Nat→Int→Int→Bool→ByteArray→Int→Int→List (S105)→Int→Option ((List (S105)) × Int × Int)
 |0,_,_,_,_,_,_,_,_=>none
 |k+1,x6,x7,x28,x239000,x239001,x239002,x240000,x240001=>if x28=true then ((barqueref01_Reader_Text.f k x239000 x239001 x239002 200).bind fun bt245=>((barqueref01_Reader_Num.f k bt245.2.1 bt245.2.2.1 bt245.2.2.2).bind fun bt249=>((barqueref01_Reader_Count.f k bt249.2.1 bt249.2.2.1 bt249.2.2.2 65536).bind fun bt253=>(if x240000.length < 2932031007402 then (barqueref10_Told.l0 k x6 (wrap64 (x7+1)) bt253.2.1 bt253.2.2.1 bt253.2.2.2 (x240000++[(⟨(⟨bt245.1,bt249.1,(⟨#[]⟩:ByteArray)⟩:S66),bt253.1⟩:S105)]) x240001) else (none))))) else (if x239002=0 then (barqueref10_Told.l1 k ([]:List (S66)) 0 x239000 x239001 x239002 x240000 x240001) else (some (([]:List (S105)),0,x239002)))
def barqueref10_Told.l1:Nat→List (S66)→Int→ByteArray→Int→Int→List (S105)→Int→Option ((List (S105)) × Int × Int)
 |0,_,_,_,_,_,_,_=>none
 |k+1,x10,x11,x239000,x239001,x239002,x240000,x240001=>if x11 < (x240000.length:Int) then (if 0≤x11 then (if x10.length < 3518437208883 then (barqueref10_Told.l1 k (x10++[(⟨(rd_T105 x240000 x11).f0.f0,(rd_T105 x240000 x11).f0.f1,(rd_T105 x240000 x11).f0.f2⟩:S66)]) (wrap64 (x11+1)) x239000 x239001 x239002 x240000 x240001) else (none)) else (none)) else ((barqueref09_Check.f k x10).bind fun t264=>(if t264=0 then (some (x240000,x239001,0)) else (some (([]:List (S105)),0,t264))))
end
def barqueref10_Told.f (k:Nat) (a0:ByteArray):Option ((List (S105)) × Int × Int):=(barqueref01_Reader_Count.f k a0 0 0 256).bind fun bt240=>(barqueref10_Told.l0 k bt240.1 0 bt240.2.1 bt240.2.2.1 bt240.2.2.2 ([]:List (S105)) 0)
set_option maxHeartbeats 8000000 in
set_option maxRecDepth 100000 in
theorem barqueref10_Told.calls (k:Nat) (a0:ByteArray) (r1:List (S105)) (r2:Int) (r3:Int) (w:World) (h:barqueref10_Told.f k a0=some (r1,r2,r3)):
  Calls Tryd.prog 59 #[.string a0] w fun e w'=> ∃v0_:Value,e= .returned (.tuple #[.agg #[v0_, .int .i64 r2], .int .i64 r3])∧Kd.R k105 105 w' w.heap.size (fun _=>True) v0_ r1∧Below w.heap.size w w':=by
 have hu101:=Tryd.underlying101
 have hu115:=Tryd.underlying115
 have hu66:=Tryd.underlying66
 have hu105:=Tryd.underlying105
 have HB:=Aside0.mk (Below.refl w.heap.size w)
 have H:((barqueref01_Reader_Count.f k a0 0 0 256).bind fun bt240=>(barqueref10_Told.l0 k bt240.1 0 bt240.2.1 bt240.2.2.1 bt240.2.2.2 ([]:List (S105)) 0))=some (r1,r2,r3):=h
 clear h
 replace H:=Option.bind_eq_some_iff.mp H
 obtain ⟨⟨t240,t241,t242,t243⟩,A20,H⟩:=H
 replace H:(barqueref10_Told.l0 k t240 0 t241 t242 t243 ([]:List (S105)) 0)=some (r1,r2,r3):=H
 have A2:=Aside0.mk A20
 clear A20
 have H':=Aside0.mk H
 clear H
 go_enter Tryd.func59,Tryd.ntmps59
 go_wp2_with (first|((with_reducible refine gate_dst (N:=2) rfl ?_);refine box_event ?hg (N:=2) ?hd (cs:=#[.slice none 0 0, .int .i64 0]) (t:=101) ?hr ?_;(case hd=>rfl);(case hg=>rfl);(case hr=>first|(go_simp;done)|(go_simp;rfl));intro gb237 hg w3 hbox hb;have n0_:=Aside0.mk (below_step (by repeat (first|(with_reducible first|exact HB.out|apply below_alloc|apply pw_below_drewN|apply below_drew1)|exact HB.out)) hb);have n1_:=Aside0.mk (hbox);have n2_:=Aside0.mk ((by rw [hg];exact (below_size (by repeat (first|(with_reducible first|exact HB.out|apply below_alloc|apply pw_below_drewN|apply below_drew1)|exact HB.out))):w.heap.size≤gb237));have n3_:=Aside0.mk ((by rw [hg];exact (below_size (by repeat (first|(with_reducible first|exact HB.out|apply below_alloc|apply pw_below_drewN|apply below_drew1)|exact HB.out))):w.heap.size≤gb237));clear HB;have HB:=n0_;have BK237:=n1_;have GW237:=n2_;have GE237:=n3_;clear n0_ n1_ n2_ n3_;clear hb hbox hg)|((with_reducible refine gate_dst (N:=15) rfl ?_);refine box_event ?hg (N:=15) ?hd (cs:=#[.string a0, .int .i64 0, .int .i64 0]) (t:=115) ?hr ?_;(case hd=>rfl);(case hg=>rfl);(case hr=>first|(go_simp;done)|(go_simp;rfl));intro gb238 hg w4 hbox hb;have n0_:=Aside0.mk (blk_below (g:=gb237) (o:= .cells #[.slice none 0 0, .int .i64 0] 101 (0,0)) (by (with_reducible repeat (first|refine blk_drewN ?_ _|refine blk_drew ?_|refine blk_alloc ?_ _));exact BK237.out) hb);have n1_:=Aside0.mk (below_step (by repeat (first|(with_reducible first|exact HB.out|apply below_alloc|apply pw_below_drewN|apply below_drew1|refine below_set ?_ GE237.out)|exact HB.out)) hb);have n2_:=Aside0.mk (hbox);have n3_:=Aside0.mk ((by rw [hg];exact (below_size (by repeat (first|(with_reducible first|exact HB.out|apply below_alloc|apply pw_below_drewN|apply below_drew1|refine below_set ?_ GE237.out)|exact HB.out))):w.heap.size≤gb238));have n4_:=Aside0.mk ((by rw [hg];exact (below_size (by repeat (first|(with_reducible first|exact HB.out|apply below_alloc|apply pw_below_drewN|apply below_drew1|refine below_set ?_ GE237.out)|exact HB.out))):w.heap.size≤gb238));have n5_:=Aside0.mk ((by rw [hg];exact Nat.ne_of_lt (blk_lt (g:=gb237) (o:= .cells #[.slice none 0 0, .int .i64 0] 101 (0,0)) (by (with_reducible repeat (first|refine blk_drewN ?_ _|refine blk_drew ?_|refine blk_alloc ?_ _));exact BK237.out)):gb237≠gb238));have n6_:=Aside0.mk ((by rw [hg];exact Nat.ne_of_gt (blk_lt (g:=gb237) (o:= .cells #[.slice none 0 0, .int .i64 0] 101 (0,0)) (by (with_reducible repeat (first|refine blk_drewN ?_ _|refine blk_drew ?_|refine blk_alloc ?_ _));exact BK237.out)):gb238≠gb237));clear BK237;clear HB;have BK237:=n0_;have HB:=n1_;have BK238:=n2_;have GW238:=n3_;have GE238:=n4_;have NB237_238:=n5_;have NB238_237:=n6_;clear n0_ n1_ n2_ n3_ n4_ n5_ n6_;clear hb hbox hg)|((with_reducible refine gate_dst (N:=5) rfl ?_);refine box_event ?hg (N:=5) ?hd (cs:=#[.slice none 0 0, .int .i64 0]) (t:=101) ?hr ?_;(case hd=>rfl);(case hg=>rfl);(case hr=>first|(go_simp;done)|(go_simp;rfl));intro gb239 hg w5 hbox hb;have n0_:=Aside0.mk (blk_below (g:=gb237) (o:= .cells #[.slice none 0 0, .int .i64 0] 101 (0,0)) (by (with_reducible repeat (first|refine blk_drewN ?_ _|refine blk_drew ?_|refine blk_alloc ?_ _));exact BK237.out) hb);have n1_:=Aside0.mk (blk_below (g:=gb238) (o:= .cells #[.string a0, .int .i64 0, .int .i64 0] 115 (0,0)) (by (with_reducible repeat (first|refine blk_drewN ?_ _|refine blk_drew ?_|refine blk_alloc ?_ _));exact BK238.out) hb);have n2_:=Aside0.mk (below_step (by repeat (first|(with_reducible first|exact HB.out|apply below_alloc|apply pw_below_drewN|apply below_drew1|refine below_set ?_ GE237.out|refine below_set ?_ GE238.out)|exact HB.out)) hb);have n3_:=Aside0.mk (hbox);have n4_:=Aside0.mk ((by rw [hg];exact (below_size (by repeat (first|(with_reducible first|exact HB.out|apply below_alloc|apply pw_below_drewN|apply below_drew1|refine below_set ?_ GE237.out|refine below_set ?_ GE238.out)|exact HB.out))):w.heap.size≤gb239));have n5_:=Aside0.mk ((by rw [hg];exact (below_size (by repeat (first|(with_reducible first|exact HB.out|apply below_alloc|apply pw_below_drewN|apply below_drew1|refine below_set ?_ GE237.out|refine below_set ?_ GE238.out)|exact HB.out))):w.heap.size≤gb239));have n6_:=Aside0.mk ((by rw [hg];exact Nat.ne_of_lt (blk_lt (g:=gb237) (o:= .cells #[.slice none 0 0, .int .i64 0] 101 (0,0)) (by (with_reducible repeat (first|refine blk_drewN ?_ _|refine blk_drew ?_|refine blk_alloc ?_ _));exact BK237.out)):gb237≠gb239));have n7_:=Aside0.mk ((by rw [hg];exact Nat.ne_of_gt (blk_lt (g:=gb237) (o:= .cells #[.slice none 0 0, .int .i64 0] 101 (0,0)) (by (with_reducible repeat (first|refine blk_drewN ?_ _|refine blk_drew ?_|refine blk_alloc ?_ _));exact BK237.out)):gb239≠gb237));have n8_:=Aside0.mk ((by rw [hg];exact Nat.ne_of_lt (blk_lt (g:=gb238) (o:= .cells #[.string a0, .int .i64 0, .int .i64 0] 115 (0,0)) (by (with_reducible repeat (first|refine blk_drewN ?_ _|refine blk_drew ?_|refine blk_alloc ?_ _));exact BK238.out)):gb238≠gb239));have n9_:=Aside0.mk ((by rw [hg];exact Nat.ne_of_gt (blk_lt (g:=gb238) (o:= .cells #[.string a0, .int .i64 0, .int .i64 0] 115 (0,0)) (by (with_reducible repeat (first|refine blk_drewN ?_ _|refine blk_drew ?_|refine blk_alloc ?_ _));exact BK238.out)):gb239≠gb238));clear BK237;clear BK238;clear HB;have BK237:=n0_;have BK238:=n1_;have HB:=n2_;have BK239:=n3_;have GW239:=n4_;have GE239:=n5_;have NB237_239:=n6_;have NB239_237:=n7_;have NB238_239:=n8_;have NB239_238:=n9_;clear n0_ n1_ n2_ n3_ n4_ n5_ n6_ n7_ n8_ n9_;clear hb hbox hg;have hnb6:=NB239_237.out;have hnc6:=NB237_239.out;have hnb7:=NB239_238.out;have hnc7:=NB238_239.out;have hcz8_0:w5.cell? ⟨gb239,0,none⟩=some (.slice none 0 0):=(blk_cell BK239.out 0).trans rfl;have hcz8_1:w5.cell? ⟨gb239,1,none⟩=some (.int .i64 0):=(blk_cell BK239.out 1).trans rfl;have hfz8_0:=blk_frozen BK239.out 0;have hfz8_1:=blk_frozen BK239.out 1;have HI238:=Aside0.mk (show IsS115 w w5 gb238 a0 0 0 from ⟨BK238.out,GE238.out⟩);clear BK238)|((with_reducible refine gate_callee (f:=67) rfl ?_);refine goesL_ (some 18) rfl rfl Tryd.func67 (by kernel_rfl) rfl #[.pointer (some ⟨gb238,0,none⟩), .int .i64 256] rfl (by (try simp only [List.map_toArray,List.map_cons,List.map_nil]);try rfl) ?_;(with_reducible refine (barqueref01_Reader_Count.calls k gb238 a0 0 0 256 t240 t241 t242 t243 w _ ?side1 ?side2 A2.out).mono ?_);(case side1=>repeat (first|(with_reducible first|exact HI238.out|apply IsS115.alloc|apply IsS115.drewN|apply IsS115.drew|apply IsS115.set_0|apply IsS115.set_1|apply IsS115.set_2|refine IsS115.far ?_ NB238_237.out _|refine IsS115.far ?_ NB238_239.out _)|exact HI238.out));(case side2=>repeat (first|(with_reducible first|exact HB.out|apply below_alloc|apply pw_below_drewN|apply below_drew1|refine below_set ?_ (IsS115.ge HI238.out)|refine below_set ?_ GE237.out|refine below_set ?_ GE239.out)|exact HB.out));rintro e w9 ⟨rfl,hi,hb,hk⟩;refine ⟨_,rfl,?_⟩;have n0_:=Aside0.mk (KeepBut.blk hk (g':=gb237) (o:= .cells #[.slice none 0 0, .int .i64 0] 101 (0,0)) (by (with_reducible repeat (first|refine blk_drewN ?_ _|refine blk_drew ?_|refine blk_alloc ?_ _));refine blk_far ?_ NB237_239.out _;(with_reducible repeat (first|refine blk_drewN ?_ _|refine blk_drew ?_|refine blk_alloc ?_ _));refine blk_far ?_ NB237_239.out _;(with_reducible repeat (first|refine blk_drewN ?_ _|refine blk_drew ?_|refine blk_alloc ?_ _));exact BK237.out) NB237_238.out (by simp));have n1_:=Aside0.mk (KeepBut.blk hk (g':=gb239) (o:= .cells #[.slice none 0 0, .int .i64 0] 101 (0,0)) (by (with_reducible repeat (first|refine blk_drewN ?_ _|refine blk_drew ?_|refine blk_alloc ?_ _));refine blk_put (cs:=#[.slice none 0 0, .int .i64 0]) ?_ 1 _ rfl;(with_reducible repeat (first|refine blk_drewN ?_ _|refine blk_drew ?_|refine blk_alloc ?_ _));refine blk_put (cs:=#[.slice none 0 0, .int .i64 0]) ?_ 0 _ rfl;(with_reducible repeat (first|refine blk_drewN ?_ _|refine blk_drew ?_|refine blk_alloc ?_ _));exact BK239.out) NB239_238.out (by simp));have n2_:=Aside0.mk (hb);have n3_:=Aside0.mk (hi);clear BK237;clear BK239;clear HB;clear HI238;have BK237:=n0_;have BK239:=n1_;have HB:=n2_;have HI238:=n3_;clear n0_ n1_ n2_ n3_))
 go_loopg [7] k (fun kq v7 w'=> ∃(x7_1:Int) (x239000_1:ByteArray) (x239001_1:Int) (x239002_1:Int) (x240000_1:List (S105)) (u240000:Value),v7= .int .i64 x7_1∧Aside0 (barqueref10_Told.l0 kq t240 x7_1 x239000_1 x239001_1 x239002_1 x240000_1 0=some (r1,r2,r3))∧Aside0 (kq≤k)∧Aside0 (Kd.R k105 105 w' w.heap.size (fun _=>True) u240000 x240000_1)∧Aside0 (w'.heap[gb237]? =some (.cells #[(.slice none 0 0), .int .i64 0] 101 (0,0)))∧Aside0 (w'.heap[gb239]? =some (.cells #[u240000, .int .i64 0] 101 (0,0)))∧Aside0 (IsS115 w w' gb238 x239000_1 x239001_1 x239002_1)∧Aside0 (Below w.heap.size w w'))
 case atStart=>exact ⟨(0),(t241),(t242),(t243),(([]:List (S105))),(.slice none 0 0),(by first|rfl|(simp;done)|(simp [*];done)),H',⟨Nat.le_refl _⟩,⟨by first|exact Kd.R_nil _ _ _ _ _|exact Kd.N_nil _ _ _ _ _|exact Kd.V_nil _ _ _ _ _|exact Kd.Q_nil _ _ _ _ _|exact Kd.S_nil _ _ _ _ _⟩,⟨by (with_reducible repeat (first|refine blk_drewN ?_ _|refine blk_drew ?_|refine blk_alloc ?_ _));exact BK237.out⟩,⟨by (with_reducible repeat (first|refine blk_drewN ?_ _|refine blk_drew ?_|refine blk_alloc ?_ _));exact BK239.out⟩,⟨by repeat (first|(with_reducible first|exact HI238.out|apply IsS115.alloc|apply IsS115.drewN|apply IsS115.drew|apply IsS115.set_0|apply IsS115.set_1|apply IsS115.set_2|refine IsS115.far ?_ NB238_237.out _|refine IsS115.far ?_ NB238_239.out _)|exact HI238.out)⟩,⟨by repeat (first|(with_reducible first|exact HB.out|apply below_alloc|apply pw_below_drewN|apply below_drew1|refine below_set ?_ (IsS115.ge HI238.out)|refine below_set ?_ GE237.out|refine below_set ?_ GE239.out)|exact HB.out)⟩⟩
 case round=>
  clear H'
  obtain ⟨x7_1,x239000_1,x239001_1,x239002_1,x240000_1,u240000,rfl,HA,HK1,HO_240000,BK237,BK239,HI238,HB⟩:=hrel
  cases gk with
  |zero=>exact absurd HA.out (by simp [barqueref10_Told.l0])
  |succ k1=>
   have H:=HA.out
   clear HA
   simp only [barqueref10_Told.l0] at H
   have HC10:=Aside0.mk H
   clear H
   go_upto_region 5 with (fail)
   go_cut [28] (fun v28 wc=> ∃(kq:Nat) (x28_9:Bool),v28= .bool x28_9∧Aside0 (barqueref10_Told.j1 kq t240 x7_1 x28_9 x239000_1 x239001_1 x239002_1 x240000_1 0=some (r1,r2,r3))∧Aside0 (kq≤k1)∧Aside0 (Kd.R k105 105 wc w.heap.size (fun _=>True) u240000 x240000_1)∧Aside0 (wc.heap[gb237]? =some (.cells #[(.slice none 0 0), .int .i64 0] 101 (0,0)))∧Aside0 (wc.heap[gb239]? =some (.cells #[u240000, .int .i64 0] 101 (0,0)))∧Aside0 (IsS115 w wc gb238 x239000_1 x239001_1 x239002_1)∧Aside0 (Below w.heap.size w wc))
   case first=>
    have H:=HC10.out
    clear HC10
    by_cases c11:x7_1 < t240
    ·rw [if_pos c11] at H
     have c11b0:decide (x7_1 < t240)=true:=decide_eq_true c11
     clear c11
     (first|rw [c11b0]|(simp only [i64_w];rw [c11b0])|skip)
     have H':=Aside0.mk H
     clear H
     obtain ⟨HGz12,hgz12⟩:=HI238.out
     have hcz12_0:=cellS115_0 HGz12
     have hcz12_1:=cellS115_1 HGz12
     have hcz12_2:=cellS115_2 HGz12
     have hfz12_0:=blk_frozen HGz12 0
     have hfz12_1:=blk_frozen HGz12 1
     have hfz12_2:=blk_frozen HGz12 2
     clear HGz12 hgz12
     go_wp2
     go_meet
     case rel=>exact ⟨_,((x239002_1 == 0)),(by first|rfl|(simp;done)|(simp [*];done)),H',⟨by have:=HK1.out;first|omega|exact Nat.le_refl _⟩,⟨by (with_reducible repeat (first|apply Kd.R_alloc|apply Kd.R_drewN|apply Kd.R_drew));exact HO_240000.out⟩,⟨by (with_reducible repeat (first|refine blk_drewN ?_ _|refine blk_drew ?_|refine blk_alloc ?_ _));exact BK237.out⟩,⟨by (with_reducible repeat (first|refine blk_drewN ?_ _|refine blk_drew ?_|refine blk_alloc ?_ _));exact BK239.out⟩,⟨by repeat (first|(with_reducible first|exact HI238.out|apply IsS115.alloc|apply IsS115.drewN|apply IsS115.drew|apply IsS115.set_0|apply IsS115.set_1|apply IsS115.set_2|refine IsS115.far ?_ NB238_237.out _|refine IsS115.far ?_ NB238_239.out _)|exact HI238.out)⟩,⟨by repeat (first|(with_reducible first|exact HB.out|apply below_alloc|apply pw_below_drewN|apply below_drew1|refine below_set ?_ (IsS115.ge HI238.out)|refine below_set ?_ GE237.out|refine below_set ?_ GE239.out)|exact HB.out)⟩⟩
    ·rw [if_neg c11] at H
     have c11b0:decide (x7_1 < t240)=false:=decide_eq_false c11
     clear c11
     (first|rw [c11b0]|(simp only [i64_w];rw [c11b0])|skip)
     have H':=Aside0.mk H
     clear H
     go_wp2
     go_meet
     case rel=>exact ⟨_,(false),(by first|rfl|(simp;done)|(simp [*];done)),H',⟨by have:=HK1.out;first|omega|exact Nat.le_refl _⟩,⟨by (with_reducible repeat (first|apply Kd.R_alloc|apply Kd.R_drewN|apply Kd.R_drew));exact HO_240000.out⟩,⟨by (with_reducible repeat (first|refine blk_drewN ?_ _|refine blk_drew ?_|refine blk_alloc ?_ _));exact BK237.out⟩,⟨by (with_reducible repeat (first|refine blk_drewN ?_ _|refine blk_drew ?_|refine blk_alloc ?_ _));exact BK239.out⟩,⟨by repeat (first|(with_reducible first|exact HI238.out|apply IsS115.alloc|apply IsS115.drewN|apply IsS115.drew|apply IsS115.set_0|apply IsS115.set_1|apply IsS115.set_2|refine IsS115.far ?_ NB238_237.out _|refine IsS115.far ?_ NB238_239.out _)|exact HI238.out)⟩,⟨by repeat (first|(with_reducible first|exact HB.out|apply below_alloc|apply pw_below_drewN|apply below_drew1|refine below_set ?_ (IsS115.ge HI238.out)|refine below_set ?_ GE237.out|refine below_set ?_ GE239.out)|exact HB.out)⟩⟩
   case rest=>
    clear HC10
    obtain ⟨kq,x28_9,rfl,HA,HJ9,HO_240000,BK237,BK239,HI238,HB⟩:=hcut
    cases kq with
    |zero=>exact absurd HA.out (by simp [barqueref10_Told.j1])
    |succ kj9=>
     have H:=HA.out
     clear HA
     simp only [barqueref10_Told.j1] at H
     by_cases c13:x28_9=true
     ·subst c13
      have H1:((barqueref01_Reader_Text.f kj9 x239000_1 x239001_1 x239002_1 200).bind fun bt245=>((barqueref01_Reader_Num.f kj9 bt245.2.1 bt245.2.2.1 bt245.2.2.2).bind fun bt249=>((barqueref01_Reader_Count.f kj9 bt249.2.1 bt249.2.2.1 bt249.2.2.2 65536).bind fun bt253=>(if x240000_1.length < 2932031007402 then (barqueref10_Told.l0 kj9 t240 (wrap64 (x7_1+1)) bt253.2.1 bt253.2.2.1 bt253.2.2.2 (x240000_1++[(⟨(⟨bt245.1,bt249.1,(⟨#[]⟩:ByteArray)⟩:S66),bt253.1⟩:S105)]) 0) else (none)))))=some (r1,r2,r3):=by rw [if_pos rfl] at H;exact H
      clear H
      have H:=H1
      clear H1
      replace H:=Option.bind_eq_some_iff.mp H
      obtain ⟨⟨t245,t246,t247,t248⟩,A140,H⟩:=H
      replace H:((barqueref01_Reader_Num.f kj9 t246 t247 t248).bind fun bt249=>((barqueref01_Reader_Count.f kj9 bt249.2.1 bt249.2.2.1 bt249.2.2.2 65536).bind fun bt253=>(if x240000_1.length < 2932031007402 then (barqueref10_Told.l0 kj9 t240 (wrap64 (x7_1+1)) bt253.2.1 bt253.2.2.1 bt253.2.2.2 (x240000_1++[(⟨(⟨t245,bt249.1,(⟨#[]⟩:ByteArray)⟩:S66),bt253.1⟩:S105)]) 0) else (none))))=some (r1,r2,r3):=H
      have A14:=Aside0.mk A140
      clear A140
      replace H:=Option.bind_eq_some_iff.mp H
      obtain ⟨⟨t249,t250,t251,t252⟩,A150,H⟩:=H
      replace H:((barqueref01_Reader_Count.f kj9 t250 t251 t252 65536).bind fun bt253=>(if x240000_1.length < 2932031007402 then (barqueref10_Told.l0 kj9 t240 (wrap64 (x7_1+1)) bt253.2.1 bt253.2.2.1 bt253.2.2.2 (x240000_1++[(⟨(⟨t245,t249,(⟨#[]⟩:ByteArray)⟩:S66),bt253.1⟩:S105)]) 0) else (none)))=some (r1,r2,r3):=H
      have A15:=Aside0.mk A150
      clear A150
      replace H:=Option.bind_eq_some_iff.mp H
      obtain ⟨⟨t253,t254,t255,t256⟩,A160,H⟩:=H
      replace H:(if x240000_1.length < 2932031007402 then (barqueref10_Told.l0 kj9 t240 (wrap64 (x7_1+1)) t254 t255 t256 (x240000_1++[(⟨(⟨t245,t249,(⟨#[]⟩:ByteArray)⟩:S66),t253⟩:S105)]) 0) else (none))=some (r1,r2,r3):=H
      have A16:=Aside0.mk A160
      clear A160
      by_cases c17:x240000_1.length < 2932031007402
      ·rw [if_pos c17] at H
       have LMc17:=Aside0.mk c17
       clear c17
       obtain ⟨y257,hy257⟩: ∃y_:List (S105),y_=(x240000_1++[(⟨(⟨t245,t249,(⟨#[]⟩:ByteArray)⟩:S66),t253⟩:S105)]):=⟨_,rfl⟩
       replace H:(barqueref10_Told.l0 kj9 t240 (wrap64 (x7_1+1)) t254 t255 t256 y257 0)=some (r1,r2,r3):=by first|(rw [hy257];with_reducible exact H)|(have H2_:=(Option.bind_some _ _).symm.trans H;rw [hy257];with_reducible exact H2_)|(have H2_:=(Option.bind_some _ _).symm.trans H;with_reducible exact H2_)|with_reducible exact H|(rw [hy257];exact H)|exact H
       have Ny257:=Aside0.mk hy257
       clear hy257
       have H':=Aside0.mk H
       clear H
       go_wp2_with (first|((with_reducible refine gate_dst (N:=8) rfl ?_);refine box_event ?hg (N:=8) ?hd (cs:=#[.string (⟨#[]⟩:ByteArray), .int .i64 0, .string (⟨#[]⟩:ByteArray)]) (t:=66) ?hr ?_;(case hd=>rfl);(case hg=>rfl);(case hr=>first|(go_simp;done)|(go_simp;rfl));intro gb244 hg w18 hbox hb;have n0_:=Aside0.mk (Kd.R_below (by (with_reducible repeat (first|apply Kd.R_alloc|apply Kd.R_drewN|apply Kd.R_drew));exact HO_240000.out) hb);have n1_:=Aside0.mk (blk_below (g:=gb237) (o:= .cells #[.slice none 0 0, .int .i64 0] 101 (0,0)) (by (with_reducible repeat (first|refine blk_drewN ?_ _|refine blk_drew ?_|refine blk_alloc ?_ _));exact BK237.out) hb);have n2_:=Aside0.mk (blk_below (g:=gb239) (o:= .cells #[u240000, .int .i64 0] 101 (0,0)) (by (with_reducible repeat (first|refine blk_drewN ?_ _|refine blk_drew ?_|refine blk_alloc ?_ _));exact BK239.out) hb);have n3_:=Aside0.mk (IsS115.below (by repeat (first|(with_reducible first|exact HI238.out|apply IsS115.alloc|apply IsS115.drewN|apply IsS115.drew|apply IsS115.set_0|apply IsS115.set_1|apply IsS115.set_2|refine IsS115.far ?_ NB238_237.out _|refine IsS115.far ?_ NB238_239.out _)|exact HI238.out)) hb);have n4_:=Aside0.mk (below_step (by repeat (first|(with_reducible first|exact HB.out|apply below_alloc|apply pw_below_drewN|apply below_drew1|refine below_set ?_ (IsS115.ge HI238.out)|refine below_set ?_ GE237.out|refine below_set ?_ GE239.out)|exact HB.out)) hb);have n5_:=Aside0.mk (hbox);have n6_:=Aside0.mk ((by rw [hg];exact (below_size (by repeat (first|(with_reducible first|exact HB.out|apply below_alloc|apply pw_below_drewN|apply below_drew1|refine below_set ?_ (IsS115.ge HI238.out)|refine below_set ?_ GE237.out|refine below_set ?_ GE239.out)|exact HB.out))):w.heap.size≤gb244));have n7_:=Aside0.mk ((by rw [hg];exact (below_size (by repeat (first|(with_reducible first|exact HB.out|apply below_alloc|apply pw_below_drewN|apply below_drew1|refine below_set ?_ (IsS115.ge HI238.out)|refine below_set ?_ GE237.out|refine below_set ?_ GE239.out)|exact HB.out))):w.heap.size≤gb244));have n8_:=Aside0.mk ((by rw [hg];exact Nat.ne_of_lt (blk_lt (g:=gb237) (o:= .cells #[.slice none 0 0, .int .i64 0] 101 (0,0)) (by (with_reducible repeat (first|refine blk_drewN ?_ _|refine blk_drew ?_|refine blk_alloc ?_ _));exact BK237.out)):gb237≠gb244));have n9_:=Aside0.mk ((by rw [hg];exact Nat.ne_of_gt (blk_lt (g:=gb237) (o:= .cells #[.slice none 0 0, .int .i64 0] 101 (0,0)) (by (with_reducible repeat (first|refine blk_drewN ?_ _|refine blk_drew ?_|refine blk_alloc ?_ _));exact BK237.out)):gb244≠gb237));have n10_:=Aside0.mk ((by rw [hg];exact Nat.ne_of_lt (blk_lt (g:=gb239) (o:= .cells #[u240000, .int .i64 0] 101 (0,0)) (by (with_reducible repeat (first|refine blk_drewN ?_ _|refine blk_drew ?_|refine blk_alloc ?_ _));exact BK239.out)):gb239≠gb244));have n11_:=Aside0.mk ((by rw [hg];exact Nat.ne_of_gt (blk_lt (g:=gb239) (o:= .cells #[u240000, .int .i64 0] 101 (0,0)) (by (with_reducible repeat (first|refine blk_drewN ?_ _|refine blk_drew ?_|refine blk_alloc ?_ _));exact BK239.out)):gb244≠gb239));have n12_:=Aside0.mk ((by rw [hg];exact Nat.ne_of_lt (IsS115.lt (show IsS115 w _ gb238 x239000_1 x239001_1 x239002_1 from by repeat (first|(with_reducible first|exact HI238.out|apply IsS115.alloc|apply IsS115.drewN|apply IsS115.drew|apply IsS115.set_0|apply IsS115.set_1|apply IsS115.set_2|refine IsS115.far ?_ NB238_237.out _|refine IsS115.far ?_ NB238_239.out _)|exact HI238.out))):gb238≠gb244));have n13_:=Aside0.mk ((by rw [hg];exact Nat.ne_of_gt (IsS115.lt (show IsS115 w _ gb238 x239000_1 x239001_1 x239002_1 from by repeat (first|(with_reducible first|exact HI238.out|apply IsS115.alloc|apply IsS115.drewN|apply IsS115.drew|apply IsS115.set_0|apply IsS115.set_1|apply IsS115.set_2|refine IsS115.far ?_ NB238_237.out _|refine IsS115.far ?_ NB238_239.out _)|exact HI238.out))):gb244≠gb238));clear HO_240000;clear BK237;clear BK239;clear HI238;clear HB;have HO_240000:=n0_;have BK237:=n1_;have BK239:=n2_;have HI238:=n3_;have HB:=n4_;have BK244:=n5_;have GW244:=n6_;have GE244:=n7_;have NB237_244:=n8_;have NB244_237:=n9_;have NB239_244:=n10_;have NB244_239:=n11_;have NB238_244:=n12_;have NB244_238:=n13_;clear n0_ n1_ n2_ n3_ n4_ n5_ n6_ n7_ n8_ n9_ n10_ n11_ n12_ n13_;clear hb hbox hg;have hnb19:=NB244_237.out;have hnc19:=NB237_244.out;have hnb20:=NB244_239.out;have hnc20:=NB239_244.out;have hnb21:=NB244_238.out;have hnc21:=NB238_244.out;have hcz22_0:w18.cell? ⟨gb244,0,none⟩=some (.string (⟨#[]⟩:ByteArray)):=(blk_cell BK244.out 0).trans rfl;have hcz22_1:w18.cell? ⟨gb244,1,none⟩=some (.int .i64 0):=(blk_cell BK244.out 1).trans rfl;have hcz22_2:w18.cell? ⟨gb244,2,none⟩=some (.string (⟨#[]⟩:ByteArray)):=(blk_cell BK244.out 2).trans rfl;have hfz22_0:=blk_frozen BK244.out 0;have hfz22_1:=blk_frozen BK244.out 1;have hfz22_2:=blk_frozen BK244.out 2)|((with_reducible refine gate_callee (f:=68) rfl ?_);refine goesL_ (some 33) rfl rfl Tryd.func68 (by kernel_rfl) rfl #[.pointer (some ⟨gb238,0,none⟩), .int .i64 200] rfl (by (try simp only [List.map_toArray,List.map_cons,List.map_nil]);try rfl) ?_;(with_reducible refine (barqueref01_Reader_Text.calls kj9 gb238 x239000_1 x239001_1 x239002_1 200 t245 t246 t247 t248 w _ ?side1 ?side2 A14.out).mono ?_);(case side1=>repeat (first|(with_reducible first|exact HI238.out|apply IsS115.alloc|apply IsS115.drewN|apply IsS115.drew|apply IsS115.set_0|apply IsS115.set_1|apply IsS115.set_2|refine IsS115.far ?_ NB238_237.out _|refine IsS115.far ?_ NB238_239.out _|refine IsS115.far ?_ NB238_244.out _)|exact HI238.out));(case side2=>repeat (first|(with_reducible first|exact HB.out|apply below_alloc|apply pw_below_drewN|apply below_drew1|refine below_set ?_ (IsS115.ge HI238.out)|refine below_set ?_ GE237.out|refine below_set ?_ GE239.out|refine below_set ?_ GE244.out)|exact HB.out));rintro e w23 ⟨rfl,hi,hb,hk⟩;refine ⟨_,rfl,?_⟩;have n0_:=Aside0.mk (Kd.R_mono (Kd.R_keep (IsS115.apart (show IsS115 w _ gb238 x239000_1 x239001_1 x239002_1 from by repeat (first|(with_reducible first|exact HI238.out|apply IsS115.alloc|apply IsS115.drewN|apply IsS115.drew|apply IsS115.set_0|apply IsS115.set_1|apply IsS115.set_2|refine IsS115.far ?_ NB238_237.out _|refine IsS115.far ?_ NB238_239.out _|refine IsS115.far ?_ NB238_244.out _)|exact HI238.out)) (by (with_reducible repeat (first|apply Kd.R_alloc|apply Kd.R_drewN|apply Kd.R_drew));exact (Kd.R_mono (Kd.R_far (p:=⟨gb244,2,none⟩) (Kd.R_far (p:=⟨gb244,1,none⟩) (Kd.R_far (p:=⟨gb244,0,none⟩) (Kd.R_types HO_240000.out BK244.out (by decide)) (fun _ hk=>hk.2) (.string (⟨#[]⟩:ByteArray))) (fun _ hk=>hk.2) (.int .i64 0)) (fun _ hk=>hk.2) (.string (⟨#[]⟩:ByteArray))) (fun _ h_=>h_.1))) (by decide)) hk (fun _ h=>h.2)) (fun _ h=>h.1));have n1_:=Aside0.mk (KeepBut.blk hk (g':=gb237) (o:= .cells #[.slice none 0 0, .int .i64 0] 101 (0,0)) (by (with_reducible repeat (first|refine blk_drewN ?_ _|refine blk_drew ?_|refine blk_alloc ?_ _));refine blk_far ?_ NB237_244.out _;(with_reducible repeat (first|refine blk_drewN ?_ _|refine blk_drew ?_|refine blk_alloc ?_ _));refine blk_far ?_ NB237_244.out _;(with_reducible repeat (first|refine blk_drewN ?_ _|refine blk_drew ?_|refine blk_alloc ?_ _));refine blk_far ?_ NB237_244.out _;(with_reducible repeat (first|refine blk_drewN ?_ _|refine blk_drew ?_|refine blk_alloc ?_ _));exact BK237.out) NB237_238.out (by simp));have n2_:=Aside0.mk (KeepBut.blk hk (g':=gb239) (o:= .cells #[u240000, .int .i64 0] 101 (0,0)) (by (with_reducible repeat (first|refine blk_drewN ?_ _|refine blk_drew ?_|refine blk_alloc ?_ _));refine blk_far ?_ NB239_244.out _;(with_reducible repeat (first|refine blk_drewN ?_ _|refine blk_drew ?_|refine blk_alloc ?_ _));refine blk_far ?_ NB239_244.out _;(with_reducible repeat (first|refine blk_drewN ?_ _|refine blk_drew ?_|refine blk_alloc ?_ _));refine blk_far ?_ NB239_244.out _;(with_reducible repeat (first|refine blk_drewN ?_ _|refine blk_drew ?_|refine blk_alloc ?_ _));exact BK239.out) NB239_238.out (by simp));have n3_:=Aside0.mk (KeepBut.blk hk (g':=gb244) (o:= .cells #[.string (⟨#[]⟩:ByteArray), .int .i64 0, .string (⟨#[]⟩:ByteArray)] 66 (0,0)) (by (with_reducible repeat (first|refine blk_drewN ?_ _|refine blk_drew ?_|refine blk_alloc ?_ _));refine blk_put (cs:=#[.string (⟨#[]⟩:ByteArray), .int .i64 0, .string (⟨#[]⟩:ByteArray)]) ?_ 2 _ rfl;(with_reducible repeat (first|refine blk_drewN ?_ _|refine blk_drew ?_|refine blk_alloc ?_ _));refine blk_put (cs:=#[.string (⟨#[]⟩:ByteArray), .int .i64 0, .string (⟨#[]⟩:ByteArray)]) ?_ 1 _ rfl;(with_reducible repeat (first|refine blk_drewN ?_ _|refine blk_drew ?_|refine blk_alloc ?_ _));refine blk_put (cs:=#[.string (⟨#[]⟩:ByteArray), .int .i64 0, .string (⟨#[]⟩:ByteArray)]) ?_ 0 _ rfl;(with_reducible repeat (first|refine blk_drewN ?_ _|refine blk_drew ?_|refine blk_alloc ?_ _));exact BK244.out) NB244_238.out (by simp));have n4_:=Aside0.mk (hb);have n5_:=Aside0.mk (hi);clear HO_240000;clear BK237;clear BK239;clear BK244;clear HB;clear HI238;have HO_240000:=n0_;have BK237:=n1_;have BK239:=n2_;have BK244:=n3_;have HB:=n4_;have HI238:=n5_;clear n0_ n1_ n2_ n3_ n4_ n5_;have hcz24_0:w23.cell? ⟨gb244,0,none⟩=some (.string (⟨#[]⟩:ByteArray)):=(blk_cell BK244.out 0).trans rfl;have hcz24_1:w23.cell? ⟨gb244,1,none⟩=some (.int .i64 0):=(blk_cell BK244.out 1).trans rfl;have hcz24_2:w23.cell? ⟨gb244,2,none⟩=some (.string (⟨#[]⟩:ByteArray)):=(blk_cell BK244.out 2).trans rfl;have hfz24_0:=blk_frozen BK244.out 0;have hfz24_1:=blk_frozen BK244.out 1;have hfz24_2:=blk_frozen BK244.out 2)|((with_reducible refine gate_callee (f:=69) rfl ?_);refine goesL_ (some 36) rfl rfl Tryd.func69 (by kernel_rfl) rfl #[.pointer (some ⟨gb238,0,none⟩)] rfl (by (try simp only [List.map_toArray,List.map_cons,List.map_nil]);try rfl) ?_;(with_reducible refine (barqueref01_Reader_Num.calls kj9 gb238 t246 t247 t248 t249 t250 t251 t252 w _ ?side1 ?side2 A15.out).mono ?_);(case side1=>repeat (first|(with_reducible first|exact HI238.out|apply IsS115.alloc|apply IsS115.drewN|apply IsS115.drew|apply IsS115.set_0|apply IsS115.set_1|apply IsS115.set_2|refine IsS115.far ?_ NB238_237.out _|refine IsS115.far ?_ NB238_239.out _|refine IsS115.far ?_ NB238_244.out _)|exact HI238.out));(case side2=>repeat (first|(with_reducible first|exact HB.out|apply below_alloc|apply pw_below_drewN|apply below_drew1|refine below_set ?_ (IsS115.ge HI238.out)|refine below_set ?_ GE237.out|refine below_set ?_ GE239.out|refine below_set ?_ GE244.out)|exact HB.out));rintro e w25 ⟨rfl,hi,hb,hk⟩;refine ⟨_,rfl,?_⟩;have n0_:=Aside0.mk (Kd.R_mono (Kd.R_keep (IsS115.apart (show IsS115 w _ gb238 t246 t247 t248 from by repeat (first|(with_reducible first|exact HI238.out|apply IsS115.alloc|apply IsS115.drewN|apply IsS115.drew|apply IsS115.set_0|apply IsS115.set_1|apply IsS115.set_2|refine IsS115.far ?_ NB238_237.out _|refine IsS115.far ?_ NB238_239.out _|refine IsS115.far ?_ NB238_244.out _)|exact HI238.out)) (by (with_reducible repeat (first|apply Kd.R_alloc|apply Kd.R_drewN|apply Kd.R_drew));exact (Kd.R_mono (Kd.R_far (p:=⟨gb244,0,none⟩) (Kd.R_types HO_240000.out BK244.out (by decide)) (fun _ hk=>hk.2) (.string t245)) (fun _ h_=>h_.1))) (by decide)) hk (fun _ h=>h.2)) (fun _ h=>h.1));have n1_:=Aside0.mk (KeepBut.blk hk (g':=gb237) (o:= .cells #[.slice none 0 0, .int .i64 0] 101 (0,0)) (by (with_reducible repeat (first|refine blk_drewN ?_ _|refine blk_drew ?_|refine blk_alloc ?_ _));refine blk_far ?_ NB237_244.out _;(with_reducible repeat (first|refine blk_drewN ?_ _|refine blk_drew ?_|refine blk_alloc ?_ _));exact BK237.out) NB237_238.out (by simp));have n2_:=Aside0.mk (KeepBut.blk hk (g':=gb239) (o:= .cells #[u240000, .int .i64 0] 101 (0,0)) (by (with_reducible repeat (first|refine blk_drewN ?_ _|refine blk_drew ?_|refine blk_alloc ?_ _));refine blk_far ?_ NB239_244.out _;(with_reducible repeat (first|refine blk_drewN ?_ _|refine blk_drew ?_|refine blk_alloc ?_ _));exact BK239.out) NB239_238.out (by simp));have n3_:=Aside0.mk (KeepBut.blk hk (g':=gb244) (o:= .cells #[.string t245, .int .i64 0, .string (⟨#[]⟩:ByteArray)] 66 (0,0)) (by (with_reducible repeat (first|refine blk_drewN ?_ _|refine blk_drew ?_|refine blk_alloc ?_ _));refine blk_put (cs:=#[.string (⟨#[]⟩:ByteArray), .int .i64 0, .string (⟨#[]⟩:ByteArray)]) ?_ 0 _ rfl;(with_reducible repeat (first|refine blk_drewN ?_ _|refine blk_drew ?_|refine blk_alloc ?_ _));exact BK244.out) NB244_238.out (by simp));have n4_:=Aside0.mk (hb);have n5_:=Aside0.mk (hi);clear HO_240000;clear BK237;clear BK239;clear BK244;clear HB;clear HI238;have HO_240000:=n0_;have BK237:=n1_;have BK239:=n2_;have BK244:=n3_;have HB:=n4_;have HI238:=n5_;clear n0_ n1_ n2_ n3_ n4_ n5_;have hcz26_0:w25.cell? ⟨gb244,0,none⟩=some (.string t245):=(blk_cell BK244.out 0).trans rfl;have hcz26_1:w25.cell? ⟨gb244,1,none⟩=some (.int .i64 0):=(blk_cell BK244.out 1).trans rfl;have hcz26_2:w25.cell? ⟨gb244,2,none⟩=some (.string (⟨#[]⟩:ByteArray)):=(blk_cell BK244.out 2).trans rfl;have hfz26_0:=blk_frozen BK244.out 0;have hfz26_1:=blk_frozen BK244.out 1;have hfz26_2:=blk_frozen BK244.out 2)|((with_reducible refine gate_callee (f:=67) rfl ?_);refine goesL_ (some 39) rfl rfl Tryd.func67 (by kernel_rfl) rfl #[.pointer (some ⟨gb238,0,none⟩), .int .i64 65536] rfl (by (try simp only [List.map_toArray,List.map_cons,List.map_nil]);try rfl) ?_;(with_reducible refine (barqueref01_Reader_Count.calls kj9 gb238 t250 t251 t252 65536 t253 t254 t255 t256 w _ ?side1 ?side2 A16.out).mono ?_);(case side1=>repeat (first|(with_reducible first|exact HI238.out|apply IsS115.alloc|apply IsS115.drewN|apply IsS115.drew|apply IsS115.set_0|apply IsS115.set_1|apply IsS115.set_2|refine IsS115.far ?_ NB238_237.out _|refine IsS115.far ?_ NB238_239.out _|refine IsS115.far ?_ NB238_244.out _)|exact HI238.out));(case side2=>repeat (first|(with_reducible first|exact HB.out|apply below_alloc|apply pw_below_drewN|apply below_drew1|refine below_set ?_ (IsS115.ge HI238.out)|refine below_set ?_ GE237.out|refine below_set ?_ GE239.out|refine below_set ?_ GE244.out)|exact HB.out));rintro e w27 ⟨rfl,hi,hb,hk⟩;refine ⟨_,rfl,?_⟩;have n0_:=Aside0.mk (Kd.R_mono (Kd.R_keep (IsS115.apart (show IsS115 w _ gb238 t250 t251 t252 from by repeat (first|(with_reducible first|exact HI238.out|apply IsS115.alloc|apply IsS115.drewN|apply IsS115.drew|apply IsS115.set_0|apply IsS115.set_1|apply IsS115.set_2|refine IsS115.far ?_ NB238_237.out _|refine IsS115.far ?_ NB238_239.out _|refine IsS115.far ?_ NB238_244.out _)|exact HI238.out)) (by (with_reducible repeat (first|apply Kd.R_alloc|apply Kd.R_drewN|apply Kd.R_drew));exact (Kd.R_mono (Kd.R_far (p:=⟨gb244,1,none⟩) (Kd.R_types HO_240000.out BK244.out (by decide)) (fun _ hk=>hk.2) (.int .i64 t249)) (fun _ h_=>h_.1))) (by decide)) hk (fun _ h=>h.2)) (fun _ h=>h.1));have n1_:=Aside0.mk (KeepBut.blk hk (g':=gb237) (o:= .cells #[.slice none 0 0, .int .i64 0] 101 (0,0)) (by (with_reducible repeat (first|refine blk_drewN ?_ _|refine blk_drew ?_|refine blk_alloc ?_ _));refine blk_far ?_ NB237_244.out _;(with_reducible repeat (first|refine blk_drewN ?_ _|refine blk_drew ?_|refine blk_alloc ?_ _));exact BK237.out) NB237_238.out (by simp));have n2_:=Aside0.mk (KeepBut.blk hk (g':=gb239) (o:= .cells #[u240000, .int .i64 0] 101 (0,0)) (by (with_reducible repeat (first|refine blk_drewN ?_ _|refine blk_drew ?_|refine blk_alloc ?_ _));refine blk_far ?_ NB239_244.out _;(with_reducible repeat (first|refine blk_drewN ?_ _|refine blk_drew ?_|refine blk_alloc ?_ _));exact BK239.out) NB239_238.out (by simp));have n3_:=Aside0.mk (KeepBut.blk hk (g':=gb244) (o:= .cells #[.string t245, .int .i64 t249, .string (⟨#[]⟩:ByteArray)] 66 (0,0)) (by (with_reducible repeat (first|refine blk_drewN ?_ _|refine blk_drew ?_|refine blk_alloc ?_ _));refine blk_put (cs:=#[.string t245, .int .i64 0, .string (⟨#[]⟩:ByteArray)]) ?_ 1 _ rfl;(with_reducible repeat (first|refine blk_drewN ?_ _|refine blk_drew ?_|refine blk_alloc ?_ _));exact BK244.out) NB244_238.out (by simp));have n4_:=Aside0.mk (hb);have n5_:=Aside0.mk (hi);clear HO_240000;clear BK237;clear BK239;clear BK244;clear HB;clear HI238;have HO_240000:=n0_;have BK237:=n1_;have BK239:=n2_;have BK244:=n3_;have HB:=n4_;have HI238:=n5_;clear n0_ n1_ n2_ n3_ n4_ n5_;have hnb28:=NB239_237.out;have hnc28:=NB237_239.out;have hnb29:=NB239_238.out;have hnc29:=NB238_239.out;have hcz30_0:w27.cell? ⟨gb239,0,none⟩=some (u240000):=(blk_cell BK239.out 0).trans rfl;have hcz30_1:w27.cell? ⟨gb239,1,none⟩=some (.int .i64 0):=(blk_cell BK239.out 1).trans rfl;have hfz30_0:=blk_frozen BK239.out 0;have hfz30_1:=blk_frozen BK239.out 1;have hcz31_0:w27.cell? ⟨gb244,0,none⟩=some (.string t245):=(blk_cell BK244.out 0).trans rfl;have hcz31_1:w27.cell? ⟨gb244,1,none⟩=some (.int .i64 t249):=(blk_cell BK244.out 1).trans rfl;have hcz31_2:w27.cell? ⟨gb244,2,none⟩=some (.string (⟨#[]⟩:ByteArray)):=(blk_cell BK244.out 2).trans rfl;have hfz31_0:=blk_frozen BK244.out 0;have hfz31_1:=blk_frozen BK244.out 1;have hfz31_2:=blk_frozen BK244.out 2)|((with_reducible refine gate_builtin (b:= .append) (xs:=#[.tmp 41, .tmp 45]) rfl ?_);at_builtin;refine Kd.R_append k105 (w0:=w) w.heap.size rfl (.tmp 41) (.tmp 45) 99 105 (.agg #[(.string ⟨#[]⟩),(.int .i64 0),(.string ⟨#[]⟩),(.int .i64 0)]) 48 rfl Tryd.underlying99 info105 rfl (by decide) (by omega) u240000 x240000_1 (⟨(⟨t245,t249,(⟨#[]⟩:ByteArray)⟩:S66),t253⟩:S105) [.string t245, .int .i64 t249, .string (⟨#[]⟩:ByteArray), .int .i64 t253] (fun _=>True) (fun _=>False) rfl rfl ?aP (fun _ hk=>hk.elim) ?aF ?aO ?aB ?aS ?aL ?_;(case aP=>exact k105_mkM _ _ _ (⟨(⟨t245,t249,(⟨#[]⟩:ByteArray)⟩:S66),t253⟩:S105));(case aB=>exact (by repeat (first|(with_reducible first|exact HB.out|apply below_alloc|apply pw_below_drewN|apply below_drew1|refine below_set ?_ (IsS115.ge HI238.out)|refine below_set ?_ GE237.out|refine below_set ?_ GE239.out|refine below_set ?_ GE244.out)|exact HB.out)));(case aF=>exact (fun _ _=>trivial));(case aO=>exact (by (with_reducible repeat (first|apply Kd.R_alloc|apply Kd.R_drewN|apply Kd.R_drew));exact HO_240000.out));(case aS=>exact (below_size (by repeat (first|(with_reducible first|exact HB.out|apply below_alloc|apply pw_below_drewN|apply below_drew1|refine below_set ?_ (IsS115.ge HI238.out)|refine below_set ?_ GE237.out|refine below_set ?_ GE239.out|refine below_set ?_ GE244.out)|exact HB.out))));(case aL=>have:=LMc17.out;omega);intro v258 w32 ho hb hg hat;rw [← Ny257.out] at ho;have n0_:=Aside0.mk (blk_grown (g:=gb237) (o:= .cells #[.slice none 0 0, .int .i64 0] 101 (0,0)) (by (with_reducible repeat (first|refine blk_drewN ?_ _|refine blk_drew ?_|refine blk_alloc ?_ _));exact BK237.out) hg (Kd.R_ne HO_240000.out BK237.out (by decide)));have n1_:=Aside0.mk (blk_grown (g:=gb239) (o:= .cells #[u240000, .int .i64 0] 101 (0,0)) (by (with_reducible repeat (first|refine blk_drewN ?_ _|refine blk_drew ?_|refine blk_alloc ?_ _));exact BK239.out) hg (Kd.R_ne HO_240000.out BK239.out (by decide)));have n2_:=Aside0.mk (IsS115.grown (by repeat (first|(with_reducible first|exact HI238.out|apply IsS115.alloc|apply IsS115.drewN|apply IsS115.drew|apply IsS115.set_0|apply IsS115.set_1|apply IsS115.set_2|refine IsS115.far ?_ NB238_237.out _|refine IsS115.far ?_ NB238_239.out _|refine IsS115.far ?_ NB238_244.out _)|exact HI238.out)) hg (IsS115.own_ne HI238.out HO_240000.out (by decide)));have n3_:=Aside0.mk (blk_grown (g:=gb244) (o:= .cells #[.string t245, .int .i64 t249, .string (⟨#[]⟩:ByteArray)] 66 (0,0)) (by (with_reducible repeat (first|refine blk_drewN ?_ _|refine blk_drew ?_|refine blk_alloc ?_ _));exact BK244.out) hg (Kd.R_ne HO_240000.out BK244.out (by decide)));have n4_:=Aside0.mk (hb);have n5_:=Aside0.mk (ho);clear BK237;clear BK239;clear HI238;clear BK244;clear HB;clear HO_240000;have BK237:=n0_;have BK239:=n1_;have HI238:=n2_;have BK244:=n3_;have HB:=n4_;have HO259:=n5_;clear n0_ n1_ n2_ n3_ n4_ n5_;clear ho hb hg hat;obtain ⟨Ao33,co33,eo33⟩:=Kd.R_slice HO259.out;subst eo33;have hcz34_0:w32.cell? ⟨gb239,0,none⟩=some (u240000):=(blk_cell BK239.out 0).trans rfl;have hcz34_1:w32.cell? ⟨gb239,1,none⟩=some (.int .i64 0):=(blk_cell BK239.out 1).trans rfl;have hfz34_0:=blk_frozen BK239.out 0;have hfz34_1:=blk_frozen BK239.out 1))
       go_roundg kj9
       case measure=>have:=HK1.out;have:=HJ9.out;omega
       case rel=>exact ⟨(wrap64 (x7_1+1)),(t254),(t255),(t256),(y257),(.slice Ao33 y257.length co33),(by first|rfl|(simp;done)|(simp [*];done)),H',⟨by have:=HK1.out;have:=HJ9.out;omega⟩,⟨by (with_reducible repeat (first|apply Kd.R_alloc|apply Kd.R_drewN|apply Kd.R_drew));exact Kd.R_mono (Kd.R_far (p:=⟨gb239,0,none⟩) (Kd.R_types HO259.out BK239.out (by decide)) (fun _ hk=>hk.2) (.slice Ao33 y257.length co33)) (fun _ hk=>trivial)⟩,⟨by (with_reducible repeat (first|refine blk_drewN ?_ _|refine blk_drew ?_|refine blk_alloc ?_ _));refine blk_far ?_ NB237_239.out _;(with_reducible repeat (first|refine blk_drewN ?_ _|refine blk_drew ?_|refine blk_alloc ?_ _));exact BK237.out⟩,⟨by (with_reducible repeat (first|refine blk_drewN ?_ _|refine blk_drew ?_|refine blk_alloc ?_ _));refine blk_put (cs:=#[u240000, .int .i64 0]) ?_ 0 _ rfl;(with_reducible repeat (first|refine blk_drewN ?_ _|refine blk_drew ?_|refine blk_alloc ?_ _));exact BK239.out⟩,⟨by repeat (first|(with_reducible first|exact HI238.out|apply IsS115.alloc|apply IsS115.drewN|apply IsS115.drew|apply IsS115.set_0|apply IsS115.set_1|apply IsS115.set_2|refine IsS115.far ?_ NB238_237.out _|refine IsS115.far ?_ NB238_239.out _|refine IsS115.far ?_ NB238_244.out _)|exact HI238.out)⟩,⟨by repeat (first|(with_reducible first|exact HB.out|apply below_alloc|apply pw_below_drewN|apply below_drew1|refine below_set ?_ (IsS115.ge HI238.out)|refine below_set ?_ GE237.out|refine below_set ?_ GE239.out|refine below_set ?_ GE244.out)|exact HB.out)⟩⟩
      ·rw [if_neg c17] at H
       exact absurd H (by simp)
     ·replace c13:=Bool.eq_false_iff.mpr c13
      subst c13
      have H1:(if x239002_1=0 then (barqueref10_Told.l1 kj9 ([]:List (S66)) 0 x239000_1 x239001_1 x239002_1 x240000_1 0) else (some (([]:List (S105)),0,x239002_1)))=some (r1,r2,r3):=by rw [if_neg (show ¬(false=true) by decide)] at H;exact H
      clear H
      have H:=H1
      clear H1
      by_cases c35:x239002_1=0
      ·rw [if_pos c35] at H
       have c35b0:(x239002_1 == 0)=true:=beq_iff_eq.mpr c35
       have c35b1:(x239002_1 != 0)=false:=bne_eq_false_iff_eq.mpr c35
       clear c35
       have H':=Aside0.mk H
       clear H
       obtain ⟨HGz36,hgz36⟩:=HI238.out
       have hcz36_0:=cellS115_0 HGz36
       have hcz36_1:=cellS115_1 HGz36
       have hcz36_2:=cellS115_2 HGz36
       have hfz36_0:=blk_frozen HGz36 0
       have hfz36_1:=blk_frozen HGz36 1
       have hfz36_2:=blk_frozen HGz36 2
       clear HGz36 hgz36
       go_wp2
       go_loopg [10,11] kj9 (fun kq v10 v11 w'=> ∃(x10_3:List (S66)) (x11_3:Int),v11= .int .i64 x11_3∧Aside0 (barqueref10_Told.l1 kq x10_3 x11_3 x239000_1 x239001_1 x239002_1 x240000_1 0=some (r1,r2,r3))∧Aside0 (kq≤kj9)∧Aside0 (Kd.R k66 66 w' w.heap.size (fun _=>True) v10 x10_3)∧Aside0 (Kd.R k105 105 w' w.heap.size (fun _=>True) u240000 x240000_1)∧Aside0 (w'.heap[gb237]? =some (.cells #[(.slice none 0 0), .int .i64 0] 101 (0,0)))∧Aside0 (w'.heap[gb239]? =some (.cells #[u240000, .int .i64 0] 101 (0,0)))∧Aside0 (IsS115 w w' gb238 x239000_1 x239001_1 x239002_1)∧Aside0 (Below w.heap.size w w'))
       case atStart=>exact ⟨(([]:List (S66))),(0),(by first|rfl|(simp;done)|(simp [*];done)),H',⟨Nat.le_refl _⟩,⟨by first|exact Kd.R_nil _ _ _ _ _|exact Kd.N_nil _ _ _ _ _|exact Kd.V_nil _ _ _ _ _|exact Kd.Q_nil _ _ _ _ _|exact Kd.S_nil _ _ _ _ _⟩,⟨by (with_reducible repeat (first|apply Kd.R_alloc|apply Kd.R_drewN|apply Kd.R_drew));exact HO_240000.out⟩,⟨by (with_reducible repeat (first|refine blk_drewN ?_ _|refine blk_drew ?_|refine blk_alloc ?_ _));exact BK237.out⟩,⟨by (with_reducible repeat (first|refine blk_drewN ?_ _|refine blk_drew ?_|refine blk_alloc ?_ _));exact BK239.out⟩,⟨by repeat (first|(with_reducible first|exact HI238.out|apply IsS115.alloc|apply IsS115.drewN|apply IsS115.drew|apply IsS115.set_0|apply IsS115.set_1|apply IsS115.set_2|refine IsS115.far ?_ NB238_237.out _|refine IsS115.far ?_ NB238_239.out _)|exact HI238.out)⟩,⟨by repeat (first|(with_reducible first|exact HB.out|apply below_alloc|apply pw_below_drewN|apply below_drew1|refine below_set ?_ (IsS115.ge HI238.out)|refine below_set ?_ GE237.out|refine below_set ?_ GE239.out)|exact HB.out)⟩⟩
       case round=>
        clear H'
        obtain ⟨x10_3,x11_3,rfl,HA,HK3,HO_10,HO_240000,BK237,BK239,HI238,HB⟩:=hrel
        cases gk with
        |zero=>exact absurd HA.out (by simp [barqueref10_Told.l1])
        |succ k3=>
         have H:=HA.out
         clear HA
         simp only [barqueref10_Told.l1] at H
         by_cases c37:x11_3 < (x240000_1.length:Int)
         ·rw [if_pos c37] at H
          have c37b0:decide (x11_3 < (x240000_1.length:Int))=true:=decide_eq_true c37
          clear c37
          by_cases c38:0≤x11_3
          ·rw [if_pos c38] at H
           have c38b0:decide (0≤x11_3)=true:=decide_eq_true c38
           clear c38
           by_cases c39:x10_3.length < 3518437208883
           ·rw [if_pos c39] at H
            have LMc39:=Aside0.mk c39
            clear c39
            obtain ⟨y261,hy261⟩: ∃y_:List (S66),y_=(x10_3++[(⟨(rd_T105 x240000_1 x11_3).f0.f0,(rd_T105 x240000_1 x11_3).f0.f1,(rd_T105 x240000_1 x11_3).f0.f2⟩:S66)]):=⟨_,rfl⟩
            replace H:(barqueref10_Told.l1 k3 y261 (wrap64 (x11_3+1)) x239000_1 x239001_1 x239002_1 x240000_1 0)=some (r1,r2,r3):=by first|(rw [hy261];with_reducible exact H)|(have H2_:=(Option.bind_some _ _).symm.trans H;rw [hy261];with_reducible exact H2_)|(have H2_:=(Option.bind_some _ _).symm.trans H;with_reducible exact H2_)|with_reducible exact H|(rw [hy261];exact H)|exact H
            have Ny261:=Aside0.mk hy261
            clear hy261
            have H':=Aside0.mk H
            clear H
            have hnb40:=NB239_237.out
            have hnc40:=NB237_239.out
            have hnb41:=NB239_238.out
            have hnc41:=NB238_239.out
            have hcz42_0:wr.cell? ⟨gb239,0,none⟩=some (u240000):=(blk_cell BK239.out 0).trans rfl
            have hcz42_1:wr.cell? ⟨gb239,1,none⟩=some (.int .i64 0):=(blk_cell BK239.out 1).trans rfl
            have hfz42_0:=blk_frozen BK239.out 0
            have hfz42_1:=blk_frozen BK239.out 1
            obtain ⟨Ao43,co43,eo43⟩:=Kd.R_slice HO_240000.out
            subst eo43
            have p260:0≤(x11_3:Int):=of_decide_eq_true (by assumption)
            have q260:x11_3 < (x240000_1.length:Int):=of_decide_eq_true (by assumption)
            obtain ⟨ad260,e260,hx260_0,hx260_1,hx260_2,hx260_3⟩:=at_T105 (Kd.R_reads' HO_240000.out).2.2 x11_3 p260 q260
            cases e260
            replace p260:=eq_true p260
            replace q260:=eq_true q260
            go_wp2_with (first|((with_reducible refine gate_builtin (b:= .append) (xs:=#[.tmp 65, .tmp 72]) rfl ?_);at_builtin;refine Kd.R_append k66 (w0:=w) w.heap.size rfl (.tmp 65) (.tmp 72) 37 66 (.agg #[(.string ⟨#[]⟩),(.int .i64 0),(.string ⟨#[]⟩)]) 40 rfl Tryd.underlying37 info66 rfl (by decide) (by omega) u10 x10_3 (⟨(rd_T105 x240000_1 x11_3).f0.f0,(rd_T105 x240000_1 x11_3).f0.f1,(rd_T105 x240000_1 x11_3).f0.f2⟩:S66) [.string ((rd_T105 x240000_1 x11_3).f0.f0), .int .i64 ((rd_T105 x240000_1 x11_3).f0.f1), .string ((rd_T105 x240000_1 x11_3).f0.f2)] (fun _=>True) (fun _=>False) rfl rfl ?aP (fun _ hk=>hk.elim) ?aF ?aO ?aB ?aS ?aL ?_;(case aP=>exact k66_mkM _ _ _ (⟨(rd_T105 x240000_1 x11_3).f0.f0,(rd_T105 x240000_1 x11_3).f0.f1,(rd_T105 x240000_1 x11_3).f0.f2⟩:S66));(case aB=>exact (by repeat (first|(with_reducible first|exact HB.out|apply below_alloc|apply pw_below_drewN|apply below_drew1|refine below_set ?_ (IsS115.ge HI238.out)|refine below_set ?_ GE237.out|refine below_set ?_ GE239.out)|exact HB.out)));(case aF=>exact (fun _ _=>trivial));(case aO=>exact (by (with_reducible repeat (first|apply Kd.R_alloc|apply Kd.R_drewN|apply Kd.R_drew));exact HO_10.out));(case aS=>exact (below_size (by repeat (first|(with_reducible first|exact HB.out|apply below_alloc|apply pw_below_drewN|apply below_drew1|refine below_set ?_ (IsS115.ge HI238.out)|refine below_set ?_ GE237.out|refine below_set ?_ GE239.out)|exact HB.out))));(case aL=>have:=LMc39.out;omega);intro v262 w44 ho hb hg hat;rw [← Ny261.out] at ho;have n0_:=Aside0.mk (Kd.R_over' (by (with_reducible repeat (first|apply Kd.R_alloc|apply Kd.R_drewN|apply Kd.R_drew));exact HO_240000.out) (Kd.R_typed (by (with_reducible repeat (first|apply Kd.R_alloc|apply Kd.R_drewN|apply Kd.R_drew));exact HO_10.out)) (by decide) hg);have n1_:=Aside0.mk (blk_grown (g:=gb237) (o:= .cells #[.slice none 0 0, .int .i64 0] 101 (0,0)) (by (with_reducible repeat (first|refine blk_drewN ?_ _|refine blk_drew ?_|refine blk_alloc ?_ _));exact BK237.out) hg (Kd.R_ne HO_10.out BK237.out (by decide)));have n2_:=Aside0.mk (blk_grown (g:=gb239) (o:= .cells #[.slice (some ad260) x240000_1.length co43, .int .i64 0] 101 (0,0)) (by (with_reducible repeat (first|refine blk_drewN ?_ _|refine blk_drew ?_|refine blk_alloc ?_ _));exact BK239.out) hg (Kd.R_ne HO_10.out BK239.out (by decide)));have n3_:=Aside0.mk (IsS115.grown (by repeat (first|(with_reducible first|exact HI238.out|apply IsS115.alloc|apply IsS115.drewN|apply IsS115.drew|apply IsS115.set_0|apply IsS115.set_1|apply IsS115.set_2|refine IsS115.far ?_ NB238_237.out _|refine IsS115.far ?_ NB238_239.out _)|exact HI238.out)) hg (IsS115.own_ne HI238.out HO_10.out (by decide)));have n4_:=Aside0.mk (hb);have n5_:=Aside0.mk (ho);clear HO_240000;clear BK237;clear BK239;clear HI238;clear HB;clear HO_10;have HO_240000:=n0_;have BK237:=n1_;have BK239:=n2_;have HI238:=n3_;have HB:=n4_;have HO263:=n5_;clear n0_ n1_ n2_ n3_ n4_ n5_;clear ho hb hg hat))
            go_roundg k3
            case measure=>have:=HK1.out;have:=HJ9.out;have:=HK3.out;omega
            case rel=>exact ⟨(y261),(wrap64 (x11_3+1)),(by first|rfl|(simp;done)|(simp [*];done)),H',⟨by have:=HK1.out;have:=HJ9.out;have:=HK3.out;omega⟩,⟨by (with_reducible repeat (first|apply Kd.R_alloc|apply Kd.R_drewN|apply Kd.R_drew));exact HO263.out⟩,⟨by (with_reducible repeat (first|apply Kd.R_alloc|apply Kd.R_drewN|apply Kd.R_drew));exact HO_240000.out⟩,⟨by (with_reducible repeat (first|refine blk_drewN ?_ _|refine blk_drew ?_|refine blk_alloc ?_ _));exact BK237.out⟩,⟨by (with_reducible repeat (first|refine blk_drewN ?_ _|refine blk_drew ?_|refine blk_alloc ?_ _));exact BK239.out⟩,⟨by repeat (first|(with_reducible first|exact HI238.out|apply IsS115.alloc|apply IsS115.drewN|apply IsS115.drew|apply IsS115.set_0|apply IsS115.set_1|apply IsS115.set_2|refine IsS115.far ?_ NB238_237.out _|refine IsS115.far ?_ NB238_239.out _)|exact HI238.out)⟩,⟨by repeat (first|(with_reducible first|exact HB.out|apply below_alloc|apply pw_below_drewN|apply below_drew1|refine below_set ?_ (IsS115.ge HI238.out)|refine below_set ?_ GE237.out|refine below_set ?_ GE239.out)|exact HB.out)⟩⟩
           ·rw [if_neg c39] at H
            exact absurd H (by simp)
          ·rw [if_neg c38] at H
           exact absurd H (by simp)
         ·rw [if_neg c37] at H
          have c37b0:decide (x11_3 < (x240000_1.length:Int))=false:=decide_eq_false c37
          clear c37
          replace H:=Option.bind_eq_some_iff.mp H
          obtain ⟨t264,A450,H⟩:=H
          replace H:(if t264=0 then (some (x240000_1,x239001_1,0)) else (some (([]:List (S105)),0,t264)))=some (r1,r2,r3):=H
          have A45:=Aside0.mk A450
          clear A450
          by_cases c46:t264=0
          ·rw [if_pos c46] at H
           have c46b0:(t264 == 0)=true:=beq_iff_eq.mpr c46
           have c46b1:(t264 != 0)=false:=bne_eq_false_iff_eq.mpr c46
           clear c46
           simp only [Option.some.injEq,Prod.mk.injEq] at H
           obtain ⟨rfl,rfl,rfl⟩:=H
           have hnb47:=NB239_237.out
           have hnc47:=NB237_239.out
           have hnb48:=NB239_238.out
           have hnc48:=NB238_239.out
           have hcz49_0:wr.cell? ⟨gb239,0,none⟩=some (u240000):=(blk_cell BK239.out 0).trans rfl
           have hcz49_1:wr.cell? ⟨gb239,1,none⟩=some (.int .i64 0):=(blk_cell BK239.out 1).trans rfl
           have hfz49_0:=blk_frozen BK239.out 0
           have hfz49_1:=blk_frozen BK239.out 1
           obtain ⟨Ao50,co50,eo50⟩:=Kd.R_slice HO_240000.out
           subst eo50
           obtain ⟨Ao51,co51,eo51⟩:=Kd.R_slice HO_10.out
           subst eo51
           go_wp2_with (first|((with_reducible refine gate_callee (f:=42) rfl ?_);refine goesL_ (some 75) rfl rfl Tryd.func42 (by kernel_rfl) rfl #[.slice Ao51 x10_3.length co51] rfl (by (try simp only [List.map_toArray,List.map_cons,List.map_nil]);try rfl) ?_;(with_reducible refine (barqueref09_Check.calls k3 _ _ x10_3 t264 _ ?side1 ?side2 A45.out).mono ?_);(case side1=>repeat (first|exact (Kd.R_reads' HO_10.out).2.2|(with_reducible refine Kd.C_alloc ?_ _)|(with_reducible refine Kd.C_drewN ?_ _)|(with_reducible refine Kd.C_drew ?_)));(case side2=>exact (Kd.R_reads' HO_10.out).2.1);rintro e w52 ⟨rfl,hb⟩;refine ⟨_,rfl,?_⟩;have n0_:=Aside0.mk (Kd.R_below (by (with_reducible repeat (first|apply Kd.R_alloc|apply Kd.R_drewN|apply Kd.R_drew));exact HO_10.out) hb);have n1_:=Aside0.mk (Kd.R_below (by (with_reducible repeat (first|apply Kd.R_alloc|apply Kd.R_drewN|apply Kd.R_drew));exact HO_240000.out) hb);have n2_:=Aside0.mk (blk_below (g:=gb237) (o:= .cells #[.slice none 0 0, .int .i64 0] 101 (0,0)) (by (with_reducible repeat (first|refine blk_drewN ?_ _|refine blk_drew ?_|refine blk_alloc ?_ _));exact BK237.out) hb);have n3_:=Aside0.mk (blk_below (g:=gb239) (o:= .cells #[.slice Ao50 x240000_1.length co50, .int .i64 0] 101 (0,0)) (by (with_reducible repeat (first|refine blk_drewN ?_ _|refine blk_drew ?_|refine blk_alloc ?_ _));exact BK239.out) hb);have n4_:=Aside0.mk (IsS115.below (by repeat (first|(with_reducible first|exact HI238.out|apply IsS115.alloc|apply IsS115.drewN|apply IsS115.drew|apply IsS115.set_0|apply IsS115.set_1|apply IsS115.set_2|refine IsS115.far ?_ NB238_237.out _|refine IsS115.far ?_ NB238_239.out _)|exact HI238.out)) hb);have n5_:=Aside0.mk (below_step (by repeat (first|(with_reducible first|exact HB.out|apply below_alloc|apply pw_below_drewN|apply below_drew1|refine below_set ?_ (IsS115.ge HI238.out)|refine below_set ?_ GE237.out|refine below_set ?_ GE239.out)|exact HB.out)) hb);clear HO_10;clear HO_240000;clear BK237;clear BK239;clear HI238;clear HB;have HO_10:=n0_;have HO_240000:=n1_;have BK237:=n2_;have BK239:=n3_;have HI238:=n4_;have HB:=n5_;clear n0_ n1_ n2_ n3_ n4_ n5_;obtain ⟨HGz53,hgz53⟩:=HI238.out;have hcz53_0:=cellS115_0 HGz53;have hcz53_1:=cellS115_1 HGz53;have hcz53_2:=cellS115_2 HGz53;have hfz53_0:=blk_frozen HGz53 0;have hfz53_1:=blk_frozen HGz53 1;have hfz53_2:=blk_frozen HGz53 2;clear HGz53 hgz53;have hcz54_0:w52.cell? ⟨gb239,0,none⟩=some (.slice Ao50 x240000_1.length co50):=(blk_cell BK239.out 0).trans rfl;have hcz54_1:w52.cell? ⟨gb239,1,none⟩=some (.int .i64 0):=(blk_cell BK239.out 1).trans rfl;have hfz54_0:=blk_frozen BK239.out 0;have hfz54_1:=blk_frozen BK239.out 1;have hnb55:=NB237_238.out;have hnc55:=NB238_237.out;have hcz56_0:w52.cell? ⟨gb237,0,none⟩=some (.slice none 0 0):=(blk_cell BK237.out 0).trans rfl;have hcz56_1:w52.cell? ⟨gb237,1,none⟩=some (.int .i64 0):=(blk_cell BK237.out 1).trans rfl;have hfz56_0:=blk_frozen BK237.out 0;have hfz56_1:=blk_frozen BK237.out 1))
           refine bodyPost_ret (results_ct rfl _ _ gb237 101 #[.slice Ao50 x240000_1.length co50, .int .i64 x239001_1] (0,0) _ rfl (by (with_reducible repeat (first|refine blk_drewN ?_ _|refine blk_drew ?_|refine blk_alloc ?_ _));refine blk_put (cs:=#[.slice Ao50 x240000_1.length co50, .int .i64 0]) ?_ 1 _ rfl;(with_reducible repeat (first|refine blk_drewN ?_ _|refine blk_drew ?_|refine blk_alloc ?_ _));refine blk_put (cs:=#[.slice none 0 0, .int .i64 0]) ?_ 0 _ rfl;(with_reducible repeat (first|refine blk_drewN ?_ _|refine blk_drew ?_|refine blk_alloc ?_ _));refine blk_far ?_ NB237_239.out _;(with_reducible repeat (first|refine blk_drewN ?_ _|refine blk_drew ?_|refine blk_alloc ?_ _));exact BK237.out) Tryd.underlying101 rfl (by kernel_rfl)) rfl ?_
           exact ⟨_,by first|rfl|(simp [errW_none]<;>rfl)|(simp [*]<;>rfl),by (with_reducible repeat (first|apply Kd.R_alloc|apply Kd.R_drewN|apply Kd.R_drew));exact Kd.R_mono (Kd.R_far (p:=⟨gb237,1,none⟩) (Kd.R_far (p:=⟨gb237,0,none⟩) (Kd.R_far (p:=⟨gb239,1,none⟩) (Kd.R_types (Kd.R_types HO_240000.out BK239.out (by decide)) BK237.out (by decide)) (fun _ hk=>hk.1.2) (.int .i64 x239001_1)) (fun _ hk=>hk.2) (.slice Ao50 x240000_1.length co50)) (fun _ hk=>hk.2) (.int .i64 x239001_1)) (fun _ hk=>trivial),by repeat (first|(with_reducible first|exact HB.out|apply below_alloc|apply pw_below_drewN|apply below_drew1|refine below_set ?_ (IsS115.ge HI238.out)|refine below_set ?_ GE237.out|refine below_set ?_ GE239.out)|exact HB.out)⟩
          ·rw [if_neg c46] at H
           have c46b0:(t264 == 0)=false:=beq_eq_false_iff_ne.mpr c46
           have c46b1:(t264 != 0)=true:=bne_iff_ne.mpr c46
           simp only [Option.some.injEq,Prod.mk.injEq] at H
           obtain ⟨rfl,rfl,rfl⟩:=H
           have hnb57:=NB239_237.out
           have hnc57:=NB237_239.out
           have hnb58:=NB239_238.out
           have hnc58:=NB238_239.out
           have hcz59_0:wr.cell? ⟨gb239,0,none⟩=some (u240000):=(blk_cell BK239.out 0).trans rfl
           have hcz59_1:wr.cell? ⟨gb239,1,none⟩=some (.int .i64 0):=(blk_cell BK239.out 1).trans rfl
           have hfz59_0:=blk_frozen BK239.out 0
           have hfz59_1:=blk_frozen BK239.out 1
           obtain ⟨Ao60,co60,eo60⟩:=Kd.R_slice HO_240000.out
           subst eo60
           obtain ⟨Ao61,co61,eo61⟩:=Kd.R_slice HO_10.out
           subst eo61
           go_wp2_with (first|((with_reducible refine gate_callee (f:=42) rfl ?_);refine goesL_ (some 75) rfl rfl Tryd.func42 (by kernel_rfl) rfl #[.slice Ao61 x10_3.length co61] rfl (by (try simp only [List.map_toArray,List.map_cons,List.map_nil]);try rfl) ?_;(with_reducible refine (barqueref09_Check.calls k3 _ _ x10_3 t264 _ ?side1 ?side2 A45.out).mono ?_);(case side1=>repeat (first|exact (Kd.R_reads' HO_10.out).2.2|(with_reducible refine Kd.C_alloc ?_ _)|(with_reducible refine Kd.C_drewN ?_ _)|(with_reducible refine Kd.C_drew ?_)));(case side2=>exact (Kd.R_reads' HO_10.out).2.1);rintro e w62 ⟨rfl,hb⟩;refine ⟨_,rfl,?_⟩;have n0_:=Aside0.mk (Kd.R_below (by (with_reducible repeat (first|apply Kd.R_alloc|apply Kd.R_drewN|apply Kd.R_drew));exact HO_10.out) hb);have n1_:=Aside0.mk (Kd.R_below (by (with_reducible repeat (first|apply Kd.R_alloc|apply Kd.R_drewN|apply Kd.R_drew));exact HO_240000.out) hb);have n2_:=Aside0.mk (blk_below (g:=gb237) (o:= .cells #[.slice none 0 0, .int .i64 0] 101 (0,0)) (by (with_reducible repeat (first|refine blk_drewN ?_ _|refine blk_drew ?_|refine blk_alloc ?_ _));exact BK237.out) hb);have n3_:=Aside0.mk (blk_below (g:=gb239) (o:= .cells #[.slice Ao60 x240000_1.length co60, .int .i64 0] 101 (0,0)) (by (with_reducible repeat (first|refine blk_drewN ?_ _|refine blk_drew ?_|refine blk_alloc ?_ _));exact BK239.out) hb);have n4_:=Aside0.mk (IsS115.below (by repeat (first|(with_reducible first|exact HI238.out|apply IsS115.alloc|apply IsS115.drewN|apply IsS115.drew|apply IsS115.set_0|apply IsS115.set_1|apply IsS115.set_2|refine IsS115.far ?_ NB238_237.out _|refine IsS115.far ?_ NB238_239.out _)|exact HI238.out)) hb);have n5_:=Aside0.mk (below_step (by repeat (first|(with_reducible first|exact HB.out|apply below_alloc|apply pw_below_drewN|apply below_drew1|refine below_set ?_ (IsS115.ge HI238.out)|refine below_set ?_ GE237.out|refine below_set ?_ GE239.out)|exact HB.out)) hb);clear HO_10;clear HO_240000;clear BK237;clear BK239;clear HI238;clear HB;have HO_10:=n0_;have HO_240000:=n1_;have BK237:=n2_;have BK239:=n3_;have HI238:=n4_;have HB:=n5_;clear n0_ n1_ n2_ n3_ n4_ n5_;have hnb63:=NB237_238.out;have hnc63:=NB238_237.out;have hcz64_0:w62.cell? ⟨gb237,0,none⟩=some (.slice none 0 0):=(blk_cell BK237.out 0).trans rfl;have hcz64_1:w62.cell? ⟨gb237,1,none⟩=some (.int .i64 0):=(blk_cell BK237.out 1).trans rfl;have hfz64_0:=blk_frozen BK237.out 0;have hfz64_1:=blk_frozen BK237.out 1))
           refine bodyPost_ret (results_ct rfl _ _ gb237 101 #[.slice none 0 0, .int .i64 0] (0,0) _ rfl (by (with_reducible repeat (first|refine blk_drewN ?_ _|refine blk_drew ?_|refine blk_alloc ?_ _));refine blk_put (cs:=#[.slice none 0 0, .int .i64 0]) ?_ 1 _ rfl;(with_reducible repeat (first|refine blk_drewN ?_ _|refine blk_drew ?_|refine blk_alloc ?_ _));refine blk_put (cs:=#[.slice none 0 0, .int .i64 0]) ?_ 0 _ rfl;(with_reducible repeat (first|refine blk_drewN ?_ _|refine blk_drew ?_|refine blk_alloc ?_ _));exact BK237.out) Tryd.underlying101 rfl (by kernel_rfl)) rfl ?_
           exact ⟨_,by first|rfl|(simp [errW_none]<;>rfl)|(simp [*]<;>rfl),by first|exact Kd.R_nil _ _ _ _ _|exact Kd.N_nil _ _ _ _ _|exact Kd.V_nil _ _ _ _ _|exact Kd.Q_nil _ _ _ _ _|exact Kd.S_nil _ _ _ _ _,by repeat (first|(with_reducible first|exact HB.out|apply below_alloc|apply pw_below_drewN|apply below_drew1|refine below_set ?_ (IsS115.ge HI238.out)|refine below_set ?_ GE237.out|refine below_set ?_ GE239.out)|exact HB.out)⟩
      ·rw [if_neg c35] at H
       have c35b0:(x239002_1 == 0)=false:=beq_eq_false_iff_ne.mpr c35
       have c35b1:(x239002_1 != 0)=true:=bne_iff_ne.mpr c35
       simp only [Option.some.injEq,Prod.mk.injEq] at H
       obtain ⟨rfl,rfl,rfl⟩:=H
       obtain ⟨HGz65,hgz65⟩:=HI238.out
       have hcz65_0:=cellS115_0 HGz65
       have hcz65_1:=cellS115_1 HGz65
       have hcz65_2:=cellS115_2 HGz65
       have hfz65_0:=blk_frozen HGz65 0
       have hfz65_1:=blk_frozen HGz65 1
       have hfz65_2:=blk_frozen HGz65 2
       clear HGz65 hgz65
       try go_wp2
       have n0_:=Aside0.mk (Kd.R_drew HO_240000.out)
       have n1_:=Aside0.mk (blk_drew BK237.out)
       have n2_:=Aside0.mk (blk_drew BK239.out)
       have n3_:=Aside0.mk (IsS115.drew HI238.out)
       have n4_:=Aside0.mk (below_drew1 HB.out)
       clear HO_240000
       clear BK237
       clear BK239
       clear HI238
       clear HB
       have HO_240000:=n0_
       have BK237:=n1_
       have BK239:=n2_
       have HI238:=n3_
       have HB:=n4_
       clear n0_ n1_ n2_ n3_ n4_
       refine start_ (n:=7) (S:=fun w'=>w'.cell? ⟨gb238,0,none⟩=some (.string x239000_1)∧w'.cell? ⟨gb238,1,none⟩=some (.int .i64 x239001_1)∧w'.cell? ⟨gb238,2,none⟩=some (.int .i64 x239002_1)) (ds:=[]) (TF [0,7]) (by kernel_rfl) rfl rfl ⟨(blk_cell HI238.out.1 0).trans rfl,(blk_cell HI238.out.1 1).trans rfl,(blk_cell HI238.out.1 2).trans rfl⟩ (fun hHeld=>?_)
       generalize wc.drew=w66 at HO_240000 BK237 BK239 HI238 HB hHeld ⊢
       apply pu 0 (some 53) [1,6] rfl rfl (by kernel_rfl) (fun _ _ _ h=>h) (by rfl)
       ·intro w';go_simp;with_reducible rfl
       ·simp only [Act.put,List.setIfInBounds_toArray,List.set_cons_zero,List.set_cons_succ,i64_w];rfl
       apply pu 1 (some 54) [2,5] rfl rfl (by kernel_rfl) (fun _ _ _ h=>h) (by rfl)
       ·intro w';go_simp;with_reducible rfl
       ·simp only [Act.put,List.setIfInBounds_toArray,List.set_cons_zero,List.set_cons_succ,i64_w];rfl
       apply pu 2 (some 55) [3,4] rfl rfl (by kernel_rfl) (fun _ _ _ h=>h) (by rfl)
       ·intro w';go_simp;with_reducible rfl
       ·simp only [Act.put,List.setIfInBounds_toArray,List.set_cons_zero,List.set_cons_succ,i64_w];rfl
       apply pu 3 (some 56) [4,3] rfl rfl (by kernel_rfl) (fun _ _ _ h=>h) (by rfl)
       ·intro w';go_simp;with_reducible rfl
       ·simp only [Act.put,List.setIfInBounds_toArray,List.set_cons_zero,List.set_cons_succ,i64_w];rfl
       apply tk 4 (some 57) [5,2] rfl rfl (by kernel_rfl) (fun _ _ _ h=>h) hHeld (by rfl)
       ·rintro w' ⟨s0,s1,s2⟩;go_simp;with_reducible rfl
       ·simp only [Act.put,List.setIfInBounds_toArray,List.set_cons_zero,List.set_cons_succ,i64_w];rfl
       refine one_ (i:=5) (N:=none) (TF [6,1]) rfl rfl (by kernel_rfl) (by decide) (fun K hK=>?_)
       have hs67:w66.cell? ⟨gb237,0,none⟩=some (.slice none 0 0):=(blk_cell BK237.out 0).trans rfl
       have hfs67:=blk_frozen BK237.out 0
       have hns67_1:=NB239_237.out
       have hms67_1:=NB237_239.out
       have hs68:w66.cell? ⟨gb237,1,none⟩=some (.int .i64 0):=(blk_cell BK237.out 1).trans rfl
       have hfs68:=blk_frozen BK237.out 1
       have hns68_1:=NB239_237.out
       have hms68_1:=NB237_239.out
       refine skip_ (w1:=?_) (by rfl) rfl ?_ ?_
       rotate_left
       ·go_simp
        rfl
       refine hK.out _ _ ⟨((cell_far (p:=⟨gb237,_,none⟩) NB238_237.out _).trans (((cell_far (p:=⟨gb237,_,none⟩) NB238_237.out _).trans (hHeld.1)))),((cell_far (p:=⟨gb237,_,none⟩) NB238_237.out _).trans (((cell_far (p:=⟨gb237,_,none⟩) NB238_237.out _).trans (hHeld.2.1)))),((cell_far (p:=⟨gb237,_,none⟩) NB238_237.out _).trans (((cell_far (p:=⟨gb237,_,none⟩) NB238_237.out _).trans (hHeld.2.2))))⟩ (fun hHeld=>?_)
       clear hK K
       apply pu 6 (some 3) [7] rfl rfl (by kernel_rfl) (fun _ _ _ h=>h) (by rfl)
       ·intro w';go_simp;with_reducible rfl
       ·simp only [Act.put,List.setIfInBounds_toArray,List.set_cons_zero,List.set_cons_succ,i64_w];rfl
       refine done_ (by kernel_rfl) ?_
       try go_wp2
       refine bodyPost_ret (results_ct rfl _ _ gb237 101 #[.slice none 0 0, .int .i64 0] (0,0) _ rfl (by (with_reducible repeat (first|refine blk_drewN ?_ _|refine blk_drew ?_|refine blk_alloc ?_ _));refine blk_put (cs:=#[.slice none 0 0, .int .i64 0]) ?_ 1 _ rfl;(with_reducible repeat (first|refine blk_drewN ?_ _|refine blk_drew ?_|refine blk_alloc ?_ _));refine blk_put (cs:=#[.slice none 0 0, .int .i64 0]) ?_ 0 _ rfl;(with_reducible repeat (first|refine blk_drewN ?_ _|refine blk_drew ?_|refine blk_alloc ?_ _));exact BK237.out) Tryd.underlying101 rfl (by kernel_rfl)) rfl ?_
       exact ⟨_,by first|rfl|(simp [errW_none]<;>rfl)|(simp [*]<;>rfl),by first|exact Kd.R_nil _ _ _ _ _|exact Kd.N_nil _ _ _ _ _|exact Kd.V_nil _ _ _ _ _|exact Kd.Q_nil _ _ _ _ _|exact Kd.S_nil _ _ _ _ _,by repeat (first|(with_reducible first|exact HB.out|apply below_alloc|apply pw_below_drewN|apply below_drew1|refine below_set ?_ (IsS115.ge HI238.out)|refine below_set ?_ GE237.out|refine below_set ?_ GE239.out)|exact HB.out)⟩
end Go.Proofs.YthejnffhfmdpnaaDoor.Q

end

section
namespace Go.Proofs.YthejnffhfmdpnaaDoor.Q
open Go.RowKit Go.Proofs.YthejnffhfmdpnaaDoorW.PrintWords Go.Proofs.YthejnffhfmdpnaaDoorW.PrintLast Go.Proofs.YthejnffhfmdpnaaDoorW.PrintMore
set_option linter.unusedVariables false
def Bx (w:World) (L:List (Array Value × Nat)) (W:World):Prop:=(∀i c t,L[i]? =some (c,t)→W.heap[w.heap.size+i]? =some (.cells c t (0,0)))∧Below w.heap.size w W
theorem Bx.at_ {w W:World} {L:List (Array Value × Nat)} (h:Bx w L W) (i:Nat) (c:Array Value) (t:Nat) (hi:L[i]? =some (c,t)):W.heap[w.heap.size+i]? =some (.cells c t (0,0)):=h.1 i c t hi
theorem Bx.bel {w W:World} {L:List (Array Value × Nat)} (h:Bx w L W):Below w.heap.size w W:=h.2
theorem Bx.below {w W W1:World} {L:List (Array Value × Nat)} (h:Bx w L W) (hb:Below W.heap.size W W1):Bx w L W1:=⟨fun i c t hi=>blk_below (h.1 i c t hi) hb,below_step h.2 hb⟩
theorem Bx.drew {w W:World} {L:List (Array Value × Nat)} (h:Bx w L W):Bx w L W.drew:=⟨h.1,below_drew h.2⟩
theorem Bx.alloc {w W:World} {L:List (Array Value × Nat)} (h:Bx w L W) (o:Obj):Bx w L (W.alloc o):=⟨fun i c t hi=>blk_alloc (h.1 i c t hi) o,below_alloc h.2 o⟩
theorem Bx.grown {w W W1:World} {L:List (Array Value × Nat)} {row:Option Nat} (h:Bx w L W) (hg:W.grownBy W1 row) (hB:Below w.heap.size w W1) (hne: ∀i c t,L[i]? =some (c,t)→some (w.heap.size+i)≠row):Bx w L W1:=⟨fun i c t hi=>blk_grown (h.1 i c t hi) hg (hne i c t hi),hB⟩
theorem Bx.ne {α:Type} {d:Kd α} {e base:Nat} {ok:Nat→Prop} {v:Value} {xs:List α} {w W:World} {L:List (Array Value × Nat)} (h:Bx w L W) (hR:d.R e W base ok v xs) (ht: ∀(i:Nat) (c:Array Value) (t:Nat),L[i]? =some (c,t)→e≠t): ∀(i:Nat) (c:Array Value) (t:Nat),L[i]? =some (c,t)→some (w.heap.size+i)≠v.ownBlock:=fun i c t hi=>Kd.R_ne hR (h.at_ i c t hi) (ht i c t hi)
theorem Bx.types4 {e t0 t1 t2 t3:Nat} {c0 c1 c2 c3:Array Value} (h0:e≠t0) (h1:e≠t1) (h2:e≠t2) (h3:e≠t3): ∀(i:Nat) (c:Array Value) (t:Nat),([(c0,t0),(c1,t1),(c2,t2),(c3,t3)]:List (Array Value × Nat))[i]? =some (c,t)→e≠t:=by
 intro i c t hi
 match i with
 |0=>obtain ⟨_,rfl⟩:=Prod.mk.inj (Option.some.inj hi);exact h0
 |1=>obtain ⟨_,rfl⟩:=Prod.mk.inj (Option.some.inj hi);exact h1
 |2=>obtain ⟨_,rfl⟩:=Prod.mk.inj (Option.some.inj hi);exact h2
 |3=>obtain ⟨_,rfl⟩:=Prod.mk.inj (Option.some.inj hi);exact h3
 |i+4=>simp at hi
theorem Bx.types5 {e t0 t1 t2 t3 t4:Nat} {c0 c1 c2 c3 c4:Array Value} (h0:e≠t0) (h1:e≠t1) (h2:e≠t2) (h3:e≠t3) (h4:e≠t4): ∀(i:Nat) (c:Array Value) (t:Nat),([(c0,t0),(c1,t1),(c2,t2),(c3,t3),(c4,t4)]:List (Array Value × Nat))[i]? =some (c,t)→e≠t:=by
 intro i c t hi
 match i with
 |0=>obtain ⟨_,rfl⟩:=Prod.mk.inj (Option.some.inj hi);exact h0
 |1=>obtain ⟨_,rfl⟩:=Prod.mk.inj (Option.some.inj hi);exact h1
 |2=>obtain ⟨_,rfl⟩:=Prod.mk.inj (Option.some.inj hi);exact h2
 |3=>obtain ⟨_,rfl⟩:=Prod.mk.inj (Option.some.inj hi);exact h3
 |4=>obtain ⟨_,rfl⟩:=Prod.mk.inj (Option.some.inj hi);exact h4
 |i+5=>simp at hi
theorem Bx.one (w:World) (c0:Array Value) (t0:Nat):Bx w [(c0,t0)] (w.alloc (.cells c0 t0)):=⟨fun i c t hi=>by
 match i with
 |0=>obtain ⟨rfl,rfl⟩:=Prod.mk.inj (Option.some.inj hi);exact blk_new w _
 |i+1=>simp at hi,below_alloc (Below.refl _ _) _⟩
theorem Bx.more {w W:World} {L:List (Array Value × Nat)} (h:Bx w L W) (hs:W.heap.size=w.heap.size+L.length) (c0:Array Value) (t0:Nat):Bx w (L++[(c0,t0)]) (W.alloc (.cells c0 t0)):=by
 refine ⟨fun i c t hi=>?_,below_alloc h.2 _⟩
 by_cases hl:i < L.length
 ·rw [List.getElem?_append_left hl] at hi
  exact blk_alloc (h.1 i c t hi) _
 ·rw [List.getElem?_append_right (by omega)] at hi
  by_cases h0:i - L.length=0
  ·rw [h0] at hi
   obtain ⟨rfl,rfl⟩:=Prod.mk.inj (Option.some.inj hi)
   rw [show w.heap.size+i=W.heap.size by omega]
   exact blk_new W _
  ·obtain ⟨j,hj⟩: ∃j,i - L.length=j+1:=⟨i - L.length - 1,by omega⟩
   rw [hj] at hi
   simp at hi
theorem Bx.four (w:World) (c0 c1 c2 c3:Array Value) (t0 t1 t2 t3:Nat):Bx w [(c0,t0),(c1,t1),(c2,t2),(c3,t3)] ((((w.alloc (.cells c0 t0)).alloc (.cells c1 t1)).alloc (.cells c2 t2)).alloc (.cells c3 t3)):=
 (((Bx.one w c0 t0).more (by simp) c1 t1).more (by simp) c2 t2).more (by simp) c3 t3
theorem Bx.five (w:World) (c0 c1 c2 c3 c4:Array Value) (t0 t1 t2 t3 t4:Nat):Bx w [(c0,t0),(c1,t1),(c2,t2),(c3,t3),(c4,t4)] (((((w.alloc (.cells c0 t0)).alloc (.cells c1 t1)).alloc (.cells c2 t2)).alloc (.cells c3 t3)).alloc (.cells c4 t4)):=
 ((((Bx.one w c0 t0).more (by simp) c1 t1).more (by simp) c2 t2).more (by simp) c3 t3).more (by simp) c4 t4
theorem put_res {W:World} {g2 g3 t2 t3:Nat} {x0 x1 y0 y1 y2 y3 y4:Value} (h2:W.heap[g2]? =some (.cells #[x0,x1] t2 (0,0))) (h3:W.heap[g3]? =some (.cells #[y0,y1,y2,y3,y4] t3 (0,0))) (hne:g2≠g3) (a0 a1 b0 b1 b2 b3 b4:Value):
  (((((((W.setCell ⟨g2,0,none⟩ a0).setCell ⟨g2,1,none⟩ a1).setCell ⟨g3,0,none⟩ b0).setCell ⟨g3,1,none⟩ b1).setCell ⟨g3,2,none⟩ b2).setCell ⟨g3,3,none⟩ b3).setCell ⟨g3,4,none⟩ b4).heap[g2]? =some (.cells #[a0,a1] t2 (0,0))∧
  (((((((W.setCell ⟨g2,0,none⟩ a0).setCell ⟨g2,1,none⟩ a1).setCell ⟨g3,0,none⟩ b0).setCell ⟨g3,1,none⟩ b1).setCell ⟨g3,2,none⟩ b2).setCell ⟨g3,3,none⟩ b3).setCell ⟨g3,4,none⟩ b4).heap[g3]? =some (.cells #[b0,b1,b2,b3,b4] t3 (0,0))∧
  ∀k,k≠g2→k≠g3→(((((((W.setCell ⟨g2,0,none⟩ a0).setCell ⟨g2,1,none⟩ a1).setCell ⟨g3,0,none⟩ b0).setCell ⟨g3,1,none⟩ b1).setCell ⟨g3,2,none⟩ b2).setCell ⟨g3,3,none⟩ b3).setCell ⟨g3,4,none⟩ b4).heap[k]? =W.heap[k]? :=by
 refine ⟨?_,?_,fun k k2 k3=>?_⟩
 ·iterate 5 refine blk_far ?_ hne _
  exact blk_put (blk_put h2 0 a0 rfl) 1 a1 rfl
 ·exact blk_put (blk_put (blk_put (blk_put (blk_put (blk_far (blk_far h3 hne.symm _) hne.symm _) 0 b0 rfl) 1 b1 rfl) 2 b2 rfl) 3 b3 rfl) 4 b4 rfl
 ·repeat rw [Below.heap_setCell _ _ _ _ (by first|exact k2|exact k3)]
theorem R_only {α:Type} {d:Kd α} {e base:Nat} {ok:Nat→Prop} {W W':World} {v:Value} {xs:List α} {g2 g3 t2 t3:Nat} {c2 c3:Array Value} (hR:d.R e W base ok v xs) (h2:W.heap[g2]? =some (.cells c2 t2 (0,0))) (h3:W.heap[g3]? =some (.cells c3 t3 (0,0))) (ht2: ∀q,q ∈ e::d.E→q≠t2) (ht3: ∀q,q ∈ e::d.E→q≠t3) (ho: ∀k,k≠g2→k≠g3→W'.heap[k]? =W.heap[k]?):d.R e W' base ok v xs:=
 Kd.R_mono (Kd.R_step (Kd.R_types (Kd.R_types hR h2 ht2) h3 ht3) (fun k hk _=>ho k hk.1.2 hk.2)) (fun k hk=>hk.1.1)
end Go.Proofs.YthejnffhfmdpnaaDoor.Q

end

section
namespace Go.Proofs.YthejnffhfmdpnaaDoor.Q
open Go.RowKit Go.Proofs.YthejnffhfmdpnaaDoorW.PrintWords Go.Proofs.YthejnffhfmdpnaaDoorW.PrintLast Go.Proofs.YthejnffhfmdpnaaDoorW.PrintMore
attribute [local go_sem] min2_int min_two
set_option linter.unusedVariables false
set_option linter.unusedSimpArgs false
def barqueref10_Tree.l0:Nat→ByteArray→Int→List (S66)→Int→List (S105)→Int→Option ((List (S66)) × Int)
 |0,_,_,_,_,_,_=>none
 |k+1,x0,x6,x7,x8,x410000,x410001=>if x8 < (x410000.length:Int) then (if 0≤x8 then (if ((rd_T105 x410000 x8).f1) > (wrap64 ((x0.size:Int) - x6)) then (some (([]:List (S66)),3)) else (if 0≤x6 then (if x6≤(wrap64 (x6+((rd_T105 x410000 x8).f1))) then (if (wrap64 (x6+((rd_T105 x410000 x8).f1)))≤(x0.size:Int) then (if x7.length < 3518437208883 then (barqueref10_Tree.l0 k x0 (wrap64 (x6+((rd_T105 x410000 x8).f1))) (x7++[(⟨(rd_T105 x410000 x8).f0.f0,(rd_T105 x410000 x8).f0.f1,x0.extract (x6:Int).toNat ((wrap64 (x6+((rd_T105 x410000 x8).f1))):Int).toNat⟩:S66)]) (wrap64 (x8+1)) x410000 x410001) else (none)) else (none)) else (none)) else (none))) else (none)) else (if x6 < (x0.size:Int) then (some (([]:List (S66)),4)) else (some (x7,0)))
def barqueref10_Tree.f (k:Nat) (a0:ByteArray):Option ((List (S66)) × Int):=if (a0.size:Int) > 524288 then (some (([]:List (S66)),4)) else ((barqueref10_Told.f k a0).bind fun bt404=>(if bt404.2.2=0 then (barqueref10_Tree.l0 k a0 bt404.2.1 ([]:List (S66)) 0 bt404.1 bt404.2.1) else (some (([]:List (S66)),bt404.2.2))))
theorem tr_grown {W W1:World} (hg:W.grownBy W1 none):Below W.heap.size W W1:=⟨hg.os,hg.tape,hg.output,hg.size,fun k hk=>hg.block k hk (by simp)⟩
def TrS (w:World) (gh:Nat) (Af:Option Addr) (cf:Nat) (files:List S105) (at0:Int) (v7:Value) (x7:List S66) (W:World):Prop:=
 Below w.heap.size w W∧W.heap[gh]? =some (.cells #[.slice Af files.length cf, .int .i64 at0] 101 (0,0))∧Kd.R k105 105 W w.heap.size (fun _=>True) (.slice Af files.length cf) files∧Kd.R k66 66 W w.heap.size (fun _=>True) v7 x7∧w.heap.size≤gh
section
variable {w W W1:World} {gh:Nat} {Af:Option Addr} {cf:Nat} {files:List S105} {at0:Int} {v7:Value} {x7:List S66}
theorem TrS.below (h:TrS w gh Af cf files at0 v7 x7 W) (hb:Below W.heap.size W W1):TrS w gh Af cf files at0 v7 x7 W1:=
 ⟨below_step h.1 hb,blk_below h.2.1 hb,Kd.R_below h.2.2.1 hb,Kd.R_below h.2.2.2.1 hb,h.2.2.2.2⟩
theorem TrS.app (h:TrS w gh Af cf files at0 v7 x7 W) (hg:W.grownBy W1 v7.ownBlock) (hb:Below w.heap.size w W1) {v7':Value} {x7':List S66} (ho:Kd.R k66 66 W1 w.heap.size (fun _=>True) v7' x7'):TrS w gh Af cf files at0 v7' x7' W1:=by
 refine ⟨hb,blk_grown h.2.1 hg (Kd.R_ne h.2.2.2.1 h.2.1 (by decide)),?_,ho,h.2.2.2.2⟩
 refine Kd.R_mono (Kd.R_step (Kd.R_bound h.2.2.1) (fun k hk hlt=>?_)) (fun k hk=>hk.1)
 obtain ⟨_,_,_,q,hq,cells,hc⟩:=hk
 have hq4:q=105:=by simpa [k105,k66,Kd.string,Kd.int,Kd.scalar,Kd.iso,Kd.pair] using hq
 subst hq4
 exact hg.block k hlt (Kd.R_ne h.2.2.2.1 hc (by decide))
end
set_option maxHeartbeats 8000000 in
set_option maxRecDepth 100000 in
theorem barqueref10_Tree.calls (k:Nat) (a0:ByteArray) (r1:List (S66)) (r2:Int) (w:World) (h:barqueref10_Tree.f k a0=some (r1,r2)):
  Calls Tryd.prog 45 #[.string a0] w fun e w'=> ∃v0_:Value,e= .returned (.tuple #[v0_, .int .i64 r2])∧Kd.R k66 66 w' w.heap.size (fun _=>True) v0_ r1∧Below w.heap.size w w':=by
 unfold barqueref10_Tree.f at h
 by_cases c2:(a0.size:Int) > 524288
 ·rw [if_pos c2] at h
  have c2b0:decide (524288 < (a0.size:Int))=true:=decide_eq_true c2
  have c2b1:decide (524288 < a0.size)=true:=decide_eq_true (by omega)
  clear c2
  simp only [Option.some.injEq,Prod.mk.injEq] at h
  obtain ⟨rfl,rfl⟩:=h
  go_enter Tryd.func45,Tryd.ntmps45
  go_wp2
  go_ret2
  exact ⟨_,rfl,Kd.R_nil _ _ _ _ _,by repeat (first|exact Below.refl _ _|apply below_alloc)⟩
 rw [if_neg c2] at h
 have c2b0:decide (524288 < (a0.size:Int))=false:=decide_eq_false c2
 have c2b1:decide (524288 < a0.size)=false:=decide_eq_false (by omega)
 have HSz:=Aside0.mk (show a0.size≤524288 by omega)
 clear c2
 obtain ⟨⟨files,at0,e0⟩,hT,h⟩:=Option.bind_eq_some_iff.mp h
 have HTo:=Aside0.mk hT
 have HH:=Aside0.mk h
 clear hT h
 by_cases c4:e0=0
 ·have c4b:(e0 != 0)=false:=bne_eq_false_iff_eq.mpr c4
  have h:=HH.out
  rw [if_pos c4] at h
  clear c4 HH
  have HH:=Aside0.mk h
  clear h
  go_enter Tryd.func45,Tryd.ntmps45
  go_wp2_with (first|(go_at_call 59;(with_reducible refine (barqueref10_Told.calls k a0 files at0 e0 _ HTo.out).mono ?_);rintro e w1 ⟨v0,rfl,ho,hb⟩;obtain ⟨Af,cf,rfl⟩:=Kd.R_slice ho;have HB:=Aside0.mk hb;have HO:=Aside0.mk ho;clear hb ho))
  have HR0:=Aside0.mk (show TrS w w1.heap.size Af cf files at0 (.slice none 0 0) [] (w1.alloc (.cells #[.slice Af files.length cf, .int .i64 at0] 101)) from ⟨below_alloc HB.out _,blk_new _ _,Kd.R_below HO.out (below_alloc (Below.refl _ _) _),Kd.R_nil _ _ _ _ _,HB.out.size⟩)
  clear HB HO HTo
  generalize w1.alloc (.cells #[.slice Af files.length cf, .int .i64 at0] 101)=w3 at HR0 ⊢
  generalize w1.heap.size=gh at HR0 ⊢
  go_loopg [6,7,8] k (fun kq v6 v7 v8 wr=> ∃(x6:Int) (x7:List S66) (x8:Int),v6= .int .i64 x6∧v8= .int .i64 x8∧Aside0 (barqueref10_Tree.l0 kq a0 x6 x7 x8 files at0=some (r1,r2))∧Aside0 (TrS w gh Af cf files at0 v7 x7 wr))
  case atStart=>exact ⟨at0,[],0,rfl,rfl,HH,HR0⟩
  case round=>
   clear HR0 HH
   obtain ⟨x6,x7,x8,rfl,rfl,HF,HR⟩:=hrel
   cases gk with
   |zero=>exact absurd HF.out (by simp [barqueref10_Tree.l0])
   |succ k1=>
    have h:=HF.out
    rw [barqueref10_Tree.l0] at h
    clear HF
    obtain ⟨A7,c7,rfl⟩:=Kd.R_slice HR.out.2.2.2.1
    have z0:wr.cell? ⟨gh,0,none⟩=some (.slice Af files.length cf):=(blk_cell HR.out.2.1 0).trans rfl
    by_cases c9:x8 < (files.length:Int)
    ·rw [if_pos c9] at h
     have c9b:decide (x8 < (files.length:Int))=true:=decide_eq_true c9
     by_cases c10:0≤x8
     ·rw [if_pos c10] at h
      obtain ⟨ad,ead,x0_,x1_,x2_,x3_⟩:=at_T105 (Kd.R_reads' HR.out.2.2.1).2.2 x8 c10 c9
      cases ead
      have p200:=eq_true c10
      have q200:=eq_true c9
      clear c9 c10
      obtain ⟨x,hx⟩: ∃x,x=rd_T105 files x8:=⟨_,rfl⟩
      rw [← hx] at x0_ x1_ x2_ x3_ h
      clear hx
      have HR1:=Aside0.mk (HR.out.below (below_alloc (Below.refl wr.heap.size wr) (.cells #[.string x.f0.f0, .int .i64 x.f0.f1, .string x.f0.f2, .int .i64 x.f1] 105)))
      have HX:=blk_new wr (.cells #[.string x.f0.f0, .int .i64 x.f0.f1, .string x.f0.f2, .int .i64 x.f1] 105)
      have HXa:=Aside0.mk HX
      have b0:(wr.alloc (.cells #[.string x.f0.f0, .int .i64 x.f0.f1, .string x.f0.f2, .int .i64 x.f1] 105)).cell? ⟨wr.heap.size,0,none⟩=some (.string x.f0.f0):=(blk_cell HXa.out 0).trans rfl
      have b1:(wr.alloc (.cells #[.string x.f0.f0, .int .i64 x.f0.f1, .string x.f0.f2, .int .i64 x.f1] 105)).cell? ⟨wr.heap.size,1,none⟩=some (.int .i64 x.f0.f1):=(blk_cell HXa.out 1).trans rfl
      have b2:(wr.alloc (.cells #[.string x.f0.f0, .int .i64 x.f0.f1, .string x.f0.f2, .int .i64 x.f1] 105)).cell? ⟨wr.heap.size,2,none⟩=some (.string x.f0.f2):=(blk_cell HXa.out 2).trans rfl
      have b3:(wr.alloc (.cells #[.string x.f0.f0, .int .i64 x.f0.f1, .string x.f0.f2, .int .i64 x.f1] 105)).cell? ⟨wr.heap.size,3,none⟩=some (.int .i64 x.f1):=(blk_cell HXa.out 3).trans rfl
      have f2:=blk_frozen HXa.out 2
      clear HX
      by_cases c11:x.f1 > wrap64 ((a0.size:Int) - x6)
      ·rw [if_pos c11] at h
       have c11b:decide (wrap64 ((a0.size:Int) - x6) < x.f1)=true:=decide_eq_true c11
       simp only [Option.some.injEq,Prod.mk.injEq] at h
       obtain ⟨rfl,rfl⟩:=h
       clear c11
       go_wp2_with fail
       go_ret2
       exact ⟨_,rfl,Kd.R_nil _ _ _ _ _,HR1.out.1⟩
      ·rw [if_neg c11] at h
       have c11b:decide (wrap64 ((a0.size:Int) - x6) < x.f1)=false:=decide_eq_false c11
       clear c11
       by_cases c16:0≤x6
       ·rw [if_pos c16] at h
        by_cases c17:x6≤wrap64 (x6+x.f1)
        ·rw [if_pos c17] at h
         by_cases c18:wrap64 (x6+x.f1)≤(a0.size:Int)
         ·rw [if_pos c18] at h
          by_cases c19:x7.length < 3518437208883
          ·rw [if_pos c19] at h
           have HF:=Aside0.mk h
           have HL7:=Aside0.mk c19
           clear h c19
           obtain ⟨sub,hsub⟩: ∃sub,sub=a0.extract x6.toNat (wrap64 (x6+x.f1)).toNat:=⟨_,rfl⟩
           have hsub':=hsub.symm
           obtain ⟨y,hy⟩: ∃y:List S66,y=x7++[(⟨x.f0.f0,x.f0.f1,sub⟩:S66)]:=⟨_,rfl⟩
           rw [hsub', ← hy] at HF
           have HY:=Aside0.mk hy
           clear hy
           have hs48: ∀W:World,(Instr.slice 9 (.string a0) (some (.int .i64 x6)) (some (.int .i64 (wrap64 (x6+x.f1)))) none).run Tryd.prog W= .ok (.string sub) W:=fun W=>by rw [hsub];exact run_slice_string W 9 a0 .i64 .i64 _ _ (by kernel_rfl) c16 c17 c18
           clear c16 c17 c18 hsub hsub'
           have HS2:=Aside0.mk (below_alloc (Below.refl wr.heap.size wr) (.cells #[.string x.f0.f0, .int .i64 x.f0.f1, .string sub, .int .i64 x.f1] 105))
           have HR2:=Aside0.mk (HR.out.below HS2.out)
           have HX2:=Aside0.mk (blk_new wr (.cells #[.string x.f0.f0, .int .i64 x.f0.f1, .string sub, .int .i64 x.f1] 105))
           have d0:(wr.alloc (.cells #[.string x.f0.f0, .int .i64 x.f0.f1, .string sub, .int .i64 x.f1] 105)).cell? ⟨wr.heap.size,0,none⟩=some (.string x.f0.f0):=(blk_cell HX2.out 0).trans rfl
           have d1:(wr.alloc (.cells #[.string x.f0.f0, .int .i64 x.f0.f1, .string sub, .int .i64 x.f1] 105)).cell? ⟨wr.heap.size,1,none⟩=some (.int .i64 x.f0.f1):=(blk_cell HX2.out 1).trans rfl
           have d2:(wr.alloc (.cells #[.string x.f0.f0, .int .i64 x.f0.f1, .string sub, .int .i64 x.f1] 105)).cell? ⟨wr.heap.size,2,none⟩=some (.string sub):=(blk_cell HX2.out 2).trans rfl
           have d3:(wr.alloc (.cells #[.string x.f0.f0, .int .i64 x.f0.f1, .string sub, .int .i64 x.f1] 105)).cell? ⟨wr.heap.size,3,none⟩=some (.int .i64 x.f1):=(blk_cell HX2.out 3).trans rfl
           clear HS2 HXa HR1
           go_wp2_with (first|((with_reducible refine gate_dst (N:=54) rfl ?_);refine Kd.R_lit k66 (w0:=w) w.heap.size 66 ?hg (N:=54) ?hd (xs:=([(⟨x.f0.f0,x.f0.f1,sub⟩:S66)])) (inner:=[.string x.f0.f0, .int .i64 x.f0.f1, .string sub]) (ok:=fun _=>True) (okp:=fun _=>True) ?hr ?hp (fun _ hk=>hk) trivial HR2.out.1 HR2.out.1.size (by simp) ?_;(case hd=>rfl);(case hg=>rfl);(case hr=>first|(go_simp;done)|(go_simp;rfl));(case hp=>exact (Reps.c3 (show Kd.M k66 _ _ _ (⟨x.f0.f0,x.f0.f1,sub⟩:S66) [.string x.f0.f0, .int .i64 x.f0.f1, .string sub] from k66_mkM _ _ _ (⟨x.f0.f0,x.f0.f1,sub⟩:S66)) (Reps.none _ _)));intro v9 w8 g9 hb hg_ hnew_;have hb8:=tr_grown hg_;have HR8:=Aside0.mk (HR2.out.below hb8);have HX8:=Aside0.mk (blk_below HX2.out hb8);have HL8:=Aside0.mk g9;clear g9 hb hg_ hnew_ hb8 HR2 HX2 d0 d1 d2 d3 b0 b1 b2 b3;obtain ⟨A9_,c9_,rfl⟩:=Kd.R_slice HL8.out)|((with_reducible refine gate_builtin (b:= .append) (xs:=#[.tmp 51, .tmp 54]) rfl ?_);at_builtin;refine Kd.R_append_rows k66 (w0:=w) w.heap.size rfl (.tmp 51) (.tmp 54) 37 66 (.agg #[.string ⟨#[]⟩, .int .i64 0, .string ⟨#[]⟩]) 40 rfl Tryd.underlying37 info66 rfl (by decide) (by omega) (.slice A7 x7.length c7) x7 [(⟨x.f0.f0,x.f0.f1,sub⟩:S66)] _ _ _ (fun _=>True) (fun _=>False) rfl rfl HR8.out.2.2.2.1 ?aR (fun _ _ h=>h) (fun _ h=>h.elim) (fun _ _=>trivial) HR8.out.1 HR8.out.1.size ?aL ?_;(case aR=>exact (Kd.R_reads' HL8.out).2.2);(case aL=>have:=HL7.out;show (x7.length+1)*40≤_;omega);intro v7n w9 ho hb hg hat;rw [← HY.out] at ho;have HX9:=Aside0.mk (blk_grown HX8.out hg (Kd.R_ne HR8.out.2.2.2.1 HX8.out (by decide)));have HR9:=Aside0.mk (HR8.out.app hg hb ho);have e3:w9.cell? ⟨wr.heap.size,3,none⟩=some (.int .i64 x.f1):=(blk_cell HX9.out 3).trans rfl;clear ho hb hg hat HR8 HX8 HL8))
           go_roundg k1
           case measure=>exact Nat.lt_succ_self _
           case rel=>exact ⟨_,y,_,rfl,rfl,HF,HR9⟩
          ·rw [if_neg c19] at h
           exact absurd h (by simp)
         ·rw [if_neg c18] at h
          exact absurd h (by simp)
        ·rw [if_neg c17] at h
         exact absurd h (by simp)
       ·rw [if_neg c16] at h
        exact absurd h (by simp)
     ·rw [if_neg c10] at h
      exact absurd h (by simp)
    ·rw [if_neg c9] at h
     have c9b:decide (x8 < (files.length:Int))=false:=decide_eq_false c9
     clear c9
     by_cases c20:x6 < (a0.size:Int)
     ·rw [if_pos c20] at h
      have c20b:decide (x6 < (a0.size:Int))=true:=decide_eq_true c20
      simp only [Option.some.injEq,Prod.mk.injEq] at h
      obtain ⟨rfl,rfl⟩:=h
      clear c20
      go_wp2_with fail
      go_ret2
      exact ⟨_,rfl,Kd.R_nil _ _ _ _ _,HR.out.1⟩
     ·rw [if_neg c20] at h
      have c20b:decide (x6 < (a0.size:Int))=false:=decide_eq_false c20
      simp only [Option.some.injEq,Prod.mk.injEq] at h
      obtain ⟨rfl,rfl⟩:=h
      clear c20
      go_wp2_with fail
      go_ret2
      exact ⟨_,rfl,HR.out.2.2.2.1,HR.out.1⟩
 ·have c4b:(e0 != 0)=true:=bne_iff_ne.mpr c4
  have h:=HH.out
  rw [if_neg c4] at h
  simp only [Option.some.injEq,Prod.mk.injEq] at h
  obtain ⟨rfl,rfl⟩:=h
  clear c4 HH
  go_enter Tryd.func45,Tryd.ntmps45
  go_wp2_with (first|(go_at_call 59;(with_reducible refine (barqueref10_Told.calls k a0 files at0 e0 _ HTo.out).mono ?_);rintro e w1 ⟨v0,rfl,ho,hb⟩;obtain ⟨Af,cf,rfl⟩:=Kd.R_slice ho;have HB:=Aside0.mk hb;have HO:=Aside0.mk ho;clear hb ho))
  go_ret2
  exact ⟨_,rfl,Kd.R_nil _ _ _ _ _,by repeat (first|exact HB.out|apply below_alloc|(refine below_set ?_ (below_size (by repeat (first|exact HB.out|apply below_alloc)))))⟩
end Go.Proofs.YthejnffhfmdpnaaDoor.Q

end
