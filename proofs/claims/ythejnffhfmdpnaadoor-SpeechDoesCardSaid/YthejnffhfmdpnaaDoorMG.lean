/- Texts of this claim, in one file. -/
import Derived.BigRegion
import Derived.Deep.LoopGhost
import Derived.Test.YthejnffhfmdpnaaDoorMF
section
namespace Go.Proofs.YthejnffhfmdpnaaDoor.Q
open Go.RowKit Go.Proofs.YthejnffhfmdpnaaDoorW.PrintWords Go.Proofs.YthejnffhfmdpnaaDoorW.PrintLast Go.Proofs.YthejnffhfmdpnaaDoorW.PrintMore
set_option linter.unusedVariables false
set_option linter.unusedSimpArgs false
theorem str_apart {w:World} {base:Nat} {ok ok2:Nat→Prop} {v:Value} {xs:List ByteArray} (h:Kd.string.R 9 w base ok v xs) (hok: ∀k,v.ownBlock=some k→ok2 k):Kd.string.R 9 w base (fun k=>True∧ok2 k) v xs:=Kd.R_of_own (h1:=fun _=>rfl) (Kd.own_of_R (h1:=fun _=>rfl) h) (fun k hk=>⟨trivial,hok k hk⟩)
theorem new_apart {w:World} {base:Nat} {ok:Nat→Prop} {u v:Value} {xs:List ByteArray} (h:Kd.string.R 9 w base ok u xs) (hn: ∃b,v.ownBlock=some b∧w.heap.size≤b): ∀k,v.ownBlock=some k→some k≠u.ownBlock:=by
 intro k hk he
 obtain ⟨b,hb,hle⟩:=hn
 rw [hk] at hb
 obtain rfl:=Option.some.inj hb
 have:=(World.ownsRow.lt (Kd.own_of_R (h1:=fun _=>rfl) h) k he.symm).2
 omega
theorem apart_new {w:World} {base:Nat} {ok:Nat→Prop} {u v:Value} {xs:List ByteArray} (h:Kd.string.R 9 w base ok u xs) (hn: ∃b,v.ownBlock=some b∧w.heap.size≤b): ∀k,u.ownBlock=some k→some k≠v.ownBlock:=by
 intro k hk he
 obtain ⟨b,hb,hle⟩:=hn
 rw [hb] at he
 obtain rfl:=Option.some.inj he
 have:=(World.ownsRow.lt (Kd.own_of_R (h1:=fun _=>rfl) h) k hk).2
 omega
set_option maxHeartbeats 8000000 in
set_option maxRecDepth 100000 in
theorem barquelaw22_do.dflt (k:Nat) (fl:Int) (A0:Option Addr) (c0:Nat) (l0:List ByteArray) (kind gen:Int) (A1:Option Addr) (c1:Nat) (l1:List S66) (w:World) (hr0:Kd.C Kd.string w A0 l0.length l0) (hc0:l0.length≤c0) (hr1:Kd.C k66 w A1 l1.length l1) (hc1:l1.length≤c1) (h1:(kind == 1)=false) (h2:(kind == 2)=false) (h3:(kind == 3)=false) (h4:(kind == 4)=false) (h6:(kind == 6)=false) (h5:(kind == 5)=false):
  Calls Tryd.prog 16 #[.agg #[.int .i64 fl, .slice A0 l0.length c0], .agg #[.int .i64 kind, .int .i64 gen, .slice A1 l1.length c1]] w (DoPost w A0 c0 l0 (fl,l0,1,0,0,[],[])):=by
 have hlm:=hr0.2.1
 have HR0:=Aside0.mk hr0
 have HC0:=Aside0.mk hc0
 have HR1:=Aside0.mk hr1
 have HC1:=Aside0.mk hc1
 clear hr0 hc0 hr1 hc1
 go_enter Tryd.func16,Tryd.ntmps16
 go_wp2
 refine bodyPost_ret (v:= .tuple #[.agg #[.int .i64 (fl), .slice A0 l0.length c0], .agg #[.int .i64 (1), .int .i64 (0), .int .i64 (0), .slice none 0 0, .slice none 0 0]]) (by simp [results,Tryd.results16,go_sem]) rfl ?_
 exact ⟨_,_,_,rfl, .inl ⟨rfl,rfl⟩,Kd.R_nil _ _ _ _ _,Kd.R_nil _ _ _ _ _,(by repeat (first|exact Below.refl _ _|apply below_alloc|apply below_drew|apply pw_below_drewN))⟩
set_option maxHeartbeats 8000000 in
set_option maxRecDepth 100000 in
theorem barquelaw22_do.four (k:Nat) (fl:Int) (A0:Option Addr) (c0:Nat) (l0:List ByteArray) (kind gen:Int) (A1:Option Addr) (c1:Nat) (l1:List S66) (w:World) (hr0:Kd.C Kd.string w A0 l0.length l0) (hc0:l0.length≤c0) (hr1:Kd.C k66 w A1 l1.length l1) (hc1:l1.length≤c1) (h1:(kind == 1)=false) (h2:(kind == 2)=false) (h3:(kind == 3)=false) (h4:(kind == 4)=true):
  Calls Tryd.prog 16 #[.agg #[.int .i64 fl, .slice A0 l0.length c0], .agg #[.int .i64 kind, .int .i64 gen, .slice A1 l1.length c1]] w (DoPost w A0 c0 l0 (fl,l0,0,(l0.length:Int),fl,[],[])):=by
 have hlm:=hr0.2.1
 have HR0:=Aside0.mk hr0
 have HC0:=Aside0.mk hc0
 have HR1:=Aside0.mk hr1
 have HC1:=Aside0.mk hc1
 clear hr0 hc0 hr1 hc1
 go_enter Tryd.func16,Tryd.ntmps16
 go_wp2
 go_region
 go_wp2
 refine bodyPost_ret (v:= .tuple #[.agg #[.int .i64 (fl), .slice A0 l0.length c0], .agg #[.int .i64 (0), .int .i64 ((l0.length:Int)), .int .i64 (fl), .slice none 0 0, .slice none 0 0]]) (by simp [results,Tryd.results16,go_sem]) rfl ?_
 exact ⟨_,_,_,rfl, .inl ⟨rfl,rfl⟩,Kd.R_nil _ _ _ _ _,Kd.R_nil _ _ _ _ _,(by repeat (first|exact Below.refl _ _|apply below_alloc|apply below_drew|apply pw_below_drewN))⟩
set_option maxHeartbeats 8000000 in
set_option maxRecDepth 100000 in
theorem barquelaw22_do.six (k:Nat) (fl:Int) (A0:Option Addr) (c0:Nat) (l0:List ByteArray) (kind gen:Int) (A1:Option Addr) (c1:Nat) (l1:List S66) (w:World) (hr0:Kd.C Kd.string w A0 l0.length l0) (hc0:l0.length≤c0) (hr1:Kd.C k66 w A1 l1.length l1) (hc1:l1.length≤c1) (h1:(kind == 1)=false) (h2:(kind == 2)=false) (h3:(kind == 3)=false) (h4:(kind == 4)=false) (h6:(kind == 6)=true):
  Calls Tryd.prog 16 #[.agg #[.int .i64 fl, .slice A0 l0.length c0], .agg #[.int .i64 kind, .int .i64 gen, .slice A1 l1.length c1]] w (DoPost w A0 c0 l0 (fl,l0,0,(l0.length:Int),fl,[],[])):=by
 have hlm:=hr0.2.1
 have HR0:=Aside0.mk hr0
 have HC0:=Aside0.mk hc0
 have HR1:=Aside0.mk hr1
 have HC1:=Aside0.mk hc1
 clear hr0 hc0 hr1 hc1
 go_enter Tryd.func16,Tryd.ntmps16
 go_wp2
 go_region
 go_wp2
 refine bodyPost_ret (v:= .tuple #[.agg #[.int .i64 (fl), .slice A0 l0.length c0], .agg #[.int .i64 (0), .int .i64 ((l0.length:Int)), .int .i64 (fl), .slice none 0 0, .slice none 0 0]]) (by simp [results,Tryd.results16,go_sem]) rfl ?_
 exact ⟨_,_,_,rfl, .inl ⟨rfl,rfl⟩,Kd.R_nil _ _ _ _ _,Kd.R_nil _ _ _ _ _,(by repeat (first|exact Below.refl _ _|apply below_alloc|apply below_drew|apply pw_below_drewN))⟩
set_option maxHeartbeats 8000000 in
set_option maxRecDepth 100000 in
theorem barquelaw22_do.three_neg (k:Nat) (fl:Int) (A0:Option Addr) (c0:Nat) (l0:List ByteArray) (kind gen:Int) (A1:Option Addr) (c1:Nat) (l1:List S66) (w:World) (hr0:Kd.C Kd.string w A0 l0.length l0) (hc0:l0.length≤c0) (hr1:Kd.C k66 w A1 l1.length l1) (hc1:l1.length≤c1) (h1:(kind == 1)=false) (h2:(kind == 2)=false) (h3:(kind == 3)=true) (hg:decide (gen < 0)=true):
  Calls Tryd.prog 16 #[.agg #[.int .i64 fl, .slice A0 l0.length c0], .agg #[.int .i64 kind, .int .i64 gen, .slice A1 l1.length c1]] w (DoPost w A0 c0 l0 (fl,l0,2,0,0,[],[])):=by
 have hlm:=hr0.2.1
 have HR0:=Aside0.mk hr0
 have HC0:=Aside0.mk hc0
 have HR1:=Aside0.mk hr1
 have HC1:=Aside0.mk hc1
 clear hr0 hc0 hr1 hc1
 go_enter Tryd.func16,Tryd.ntmps16
 go_wp2
 refine bodyPost_ret (v:= .tuple #[.agg #[.int .i64 (fl), .slice A0 l0.length c0], .agg #[.int .i64 (2), .int .i64 (0), .int .i64 (0), .slice none 0 0, .slice none 0 0]]) (by simp [results,Tryd.results16,go_sem]) rfl ?_
 exact ⟨_,_,_,rfl, .inl ⟨rfl,rfl⟩,Kd.R_nil _ _ _ _ _,Kd.R_nil _ _ _ _ _,(by repeat (first|exact Below.refl _ _|apply below_alloc|apply below_drew|apply pw_below_drewN))⟩
set_option maxHeartbeats 8000000 in
set_option maxRecDepth 100000 in
theorem barquelaw22_do.five_neg (k:Nat) (fl:Int) (A0:Option Addr) (c0:Nat) (l0:List ByteArray) (kind gen:Int) (A1:Option Addr) (c1:Nat) (l1:List S66) (w:World) (hr0:Kd.C Kd.string w A0 l0.length l0) (hc0:l0.length≤c0) (hr1:Kd.C k66 w A1 l1.length l1) (hc1:l1.length≤c1) (h1:(kind == 1)=false) (h2:(kind == 2)=false) (h3:(kind == 3)=false) (h4:(kind == 4)=false) (h6:(kind == 6)=false) (h5:(kind == 5)=true) (hg:decide (gen < 0)=true):
  Calls Tryd.prog 16 #[.agg #[.int .i64 fl, .slice A0 l0.length c0], .agg #[.int .i64 kind, .int .i64 gen, .slice A1 l1.length c1]] w (DoPost w A0 c0 l0 (fl,l0,2,0,0,[],[])):=by
 have hlm:=hr0.2.1
 have HR0:=Aside0.mk hr0
 have HC0:=Aside0.mk hc0
 have HR1:=Aside0.mk hr1
 have HC1:=Aside0.mk hc1
 clear hr0 hc0 hr1 hc1
 go_enter Tryd.func16,Tryd.ntmps16
 go_wp2
 refine bodyPost_ret (v:= .tuple #[.agg #[.int .i64 (fl), .slice A0 l0.length c0], .agg #[.int .i64 (2), .int .i64 (0), .int .i64 (0), .slice none 0 0, .slice none 0 0]]) (by simp [results,Tryd.results16,go_sem]) rfl ?_
 exact ⟨_,_,_,rfl, .inl ⟨rfl,rfl⟩,Kd.R_nil _ _ _ _ _,Kd.R_nil _ _ _ _ _,(by repeat (first|exact Below.refl _ _|apply below_alloc|apply below_drew|apply pw_below_drewN))⟩
set_option maxHeartbeats 8000000 in
set_option maxRecDepth 100000 in
theorem barquelaw22_do.five_low (k:Nat) (fl:Int) (A0:Option Addr) (c0:Nat) (l0:List ByteArray) (kind gen:Int) (A1:Option Addr) (c1:Nat) (l1:List S66) (w:World) (hr0:Kd.C Kd.string w A0 l0.length l0) (hc0:l0.length≤c0) (hr1:Kd.C k66 w A1 l1.length l1) (hc1:l1.length≤c1) (h1:(kind == 1)=false) (h2:(kind == 2)=false) (h3:(kind == 3)=false) (h4:(kind == 4)=false) (h6:(kind == 6)=false) (h5:(kind == 5)=true) (hg:decide (gen < 0)=false) (hf:decide (fl < gen)=false):
  Calls Tryd.prog 16 #[.agg #[.int .i64 fl, .slice A0 l0.length c0], .agg #[.int .i64 kind, .int .i64 gen, .slice A1 l1.length c1]] w (DoPost w A0 c0 l0 (fl,l0,0,(l0.length:Int),fl,[],[])):=by
 have hlm:=hr0.2.1
 have HR0:=Aside0.mk hr0
 have HC0:=Aside0.mk hc0
 have HR1:=Aside0.mk hr1
 have HC1:=Aside0.mk hc1
 clear hr0 hc0 hr1 hc1
 go_enter Tryd.func16,Tryd.ntmps16
 go_wp2
 go_region
 go_wp2
 refine bodyPost_ret (v:= .tuple #[.agg #[.int .i64 (fl), .slice A0 l0.length c0], .agg #[.int .i64 (0), .int .i64 ((l0.length:Int)), .int .i64 (fl), .slice none 0 0, .slice none 0 0]]) (by simp [results,Tryd.results16,go_sem]) rfl ?_
 exact ⟨_,_,_,rfl, .inl ⟨rfl,rfl⟩,Kd.R_nil _ _ _ _ _,Kd.R_nil _ _ _ _ _,(by repeat (first|exact Below.refl _ _|apply below_alloc|apply below_drew|apply pw_below_drewN))⟩
set_option maxHeartbeats 8000000 in
set_option maxRecDepth 100000 in
theorem barquelaw22_do.five_high (k:Nat) (fl:Int) (A0:Option Addr) (c0:Nat) (l0:List ByteArray) (kind gen:Int) (A1:Option Addr) (c1:Nat) (l1:List S66) (w:World) (hr0:Kd.C Kd.string w A0 l0.length l0) (hc0:l0.length≤c0) (hr1:Kd.C k66 w A1 l1.length l1) (hc1:l1.length≤c1) (h1:(kind == 1)=false) (h2:(kind == 2)=false) (h3:(kind == 3)=false) (h4:(kind == 4)=false) (h6:(kind == 6)=false) (h5:(kind == 5)=true) (hg:decide (gen < 0)=false) (hf:decide (fl < gen)=true) (hn:decide ((l0.length:Int)≤gen)=true):
  Calls Tryd.prog 16 #[.agg #[.int .i64 fl, .slice A0 l0.length c0], .agg #[.int .i64 kind, .int .i64 gen, .slice A1 l1.length c1]] w (DoPost w A0 c0 l0 (fl,l0,2,0,0,[],[])):=by
 have hlm:=hr0.2.1
 have HR0:=Aside0.mk hr0
 have HC0:=Aside0.mk hc0
 have HR1:=Aside0.mk hr1
 have HC1:=Aside0.mk hc1
 clear hr0 hc0 hr1 hc1
 go_enter Tryd.func16,Tryd.ntmps16
 go_wp2
 refine bodyPost_ret (v:= .tuple #[.agg #[.int .i64 (fl), .slice A0 l0.length c0], .agg #[.int .i64 (2), .int .i64 (0), .int .i64 (0), .slice none 0 0, .slice none 0 0]]) (by simp [results,Tryd.results16,go_sem]) rfl ?_
 exact ⟨_,_,_,rfl, .inl ⟨rfl,rfl⟩,Kd.R_nil _ _ _ _ _,Kd.R_nil _ _ _ _ _,(by repeat (first|exact Below.refl _ _|apply below_alloc|apply below_drew|apply pw_below_drewN))⟩
set_option maxHeartbeats 8000000 in
set_option maxRecDepth 100000 in
theorem barquelaw22_do.five_ok (k:Nat) (fl:Int) (A0:Option Addr) (c0:Nat) (l0:List ByteArray) (kind gen:Int) (A1:Option Addr) (c1:Nat) (l1:List S66) (w:World) (hr0:Kd.C Kd.string w A0 l0.length l0) (hc0:l0.length≤c0) (hr1:Kd.C k66 w A1 l1.length l1) (hc1:l1.length≤c1) (h1:(kind == 1)=false) (h2:(kind == 2)=false) (h3:(kind == 3)=false) (h4:(kind == 4)=false) (h6:(kind == 6)=false) (h5:(kind == 5)=true) (hg:decide (gen < 0)=false) (hf:decide (fl < gen)=true) (hn:decide ((l0.length:Int)≤gen)=false):
  Calls Tryd.prog 16 #[.agg #[.int .i64 fl, .slice A0 l0.length c0], .agg #[.int .i64 kind, .int .i64 gen, .slice A1 l1.length c1]] w (DoPost w A0 c0 l0 (gen,l0,0,(l0.length:Int),gen,[],[])):=by
 have hlm:=hr0.2.1
 have HR0:=Aside0.mk hr0
 have HC0:=Aside0.mk hc0
 have HR1:=Aside0.mk hr1
 have HC1:=Aside0.mk hc1
 clear hr0 hc0 hr1 hc1
 go_enter Tryd.func16,Tryd.ntmps16
 go_wp2
 go_region
 go_wp2
 refine bodyPost_ret (v:= .tuple #[.agg #[.int .i64 (gen), .slice A0 l0.length c0], .agg #[.int .i64 (0), .int .i64 ((l0.length:Int)), .int .i64 (gen), .slice none 0 0, .slice none 0 0]]) (by simp [results,Tryd.results16,go_sem]) rfl ?_
 exact ⟨_,_,_,rfl, .inl ⟨rfl,rfl⟩,Kd.R_nil _ _ _ _ _,Kd.R_nil _ _ _ _ _,(by repeat (first|exact Below.refl _ _|apply below_alloc|apply below_drew|apply pw_below_drewN))⟩
set_option maxHeartbeats 8000000 in
set_option maxRecDepth 100000 in
theorem barquelaw22_do.two (k:Nat) (fl:Int) (A0:Option Addr) (c0:Nat) (l0:List ByteArray) (kind gen:Int) (A1:Option Addr) (c1:Nat) (l1:List S66) (w:World) (hr0:Kd.C Kd.string w A0 l0.length l0) (hc0:l0.length≤c0) (hr1:Kd.C k66 w A1 l1.length l1) (hc1:l1.length≤c1) (h1:(kind == 1)=false) (h2:(kind == 2)=true) (r1 r2 r3:Int) (r4:List S66) (r5:List ByteArray) (h:barquelaw22_has.f k fl l0 (wrap64 ((l0.length:Int) - 1))=some (r1,r2,r3,r4,r5)):
  Calls Tryd.prog 16 #[.agg #[.int .i64 fl, .slice A0 l0.length c0], .agg #[.int .i64 kind, .int .i64 gen, .slice A1 l1.length c1]] w (DoPost w A0 c0 l0 (fl,l0,r1,r2,r3,r4,r5)):=by
 have hlm:=hr0.2.1
 have HR0:=Aside0.mk hr0
 have HC0:=Aside0.mk hc0
 have HR1:=Aside0.mk hr1
 have HC1:=Aside0.mk hc1
 clear hr0 hc0 hr1 hc1
 have HH:=Aside0.mk h
 clear h
 go_enter Tryd.func16,Tryd.ntmps16
 go_wp2
 have HD:=Aside0.mk (Bx.five w #[.int .i64 fl, .slice A0 l0.length c0] #[.int .i64 kind, .int .i64 gen, .slice A1 l1.length c1] #[.int .i64 0, .slice none 0 0] #[.int .i64 0, .int .i64 0, .int .i64 0, .slice none 0 0, .slice none 0 0] #[.int .i64 0, .int .i64 (l0.length:Int), .int .i64 fl, .slice none 0 0, .slice none 0 0] 33 43 33 39 39)
 generalize ((((w.alloc (.cells #[.int .i64 fl, .slice A0 l0.length c0] 33)).alloc (.cells #[.int .i64 kind, .int .i64 gen, .slice A1 l1.length c1] 43)).alloc (.cells #[.int .i64 0, .slice none 0 0] 33)).alloc (.cells #[.int .i64 0, .int .i64 0, .int .i64 0, .slice none 0 0, .slice none 0 0] 39)).alloc (.cells #[.int .i64 0, .int .i64 (l0.length:Int), .int .i64 fl, .slice none 0 0, .slice none 0 0] 39)=W at HD ⊢
 refine start_ (n:=7) (S:=fun w'=>w'.cell? ⟨w.heap.size,0,none⟩=some (.int .i64 fl)∧w'.cell? ⟨w.heap.size,1,none⟩=some (.slice A0 l0.length c0)) (ds:=[5,6]) (TF [0,7]) (by kernel_rfl) rfl rfl ⟨(blk_cell (HD.out.at_ 0 _ _ rfl) 0).trans rfl,(blk_cell (HD.out.at_ 0 _ _ rfl) 1).trans rfl⟩ (fun hHeld=>?_)
 have n0_:=Aside0.mk (HD.out.drew)
 clear HD
 have HD:=n0_
 clear n0_
 generalize W.drew=W1 at HD hHeld ⊢
 refine pure_ (i:=2) (N:=some 56) (v:=?_) (a':=?_) (TF [0,2,1,4]) rfl rfl (by kernel_rfl) (fun _ _ _ h=>h) (Or.inl ⟨by rfl,?_⟩) ?_ ?_
 rotate_left
 ·intro w'
  go_simp
  with_reducible rfl
 rotate_left
 ·simp only [Act.put,List.setIfInBounds_toArray,List.set_cons_zero,List.set_cons_succ,i64_w]
  rfl
 refine pure_ (i:=3) (N:=some 57) (v:=?_) (a':=?_) (TF [0,2,2,3]) rfl rfl (by kernel_rfl) (fun _ _ _ h=>h) (Or.inl ⟨by rfl,?_⟩) ?_ ?_
 rotate_left
 ·intro w'
  go_simp
  with_reducible rfl
 rotate_left
 ·simp only [Act.put,List.setIfInBounds_toArray,List.set_cons_zero,List.set_cons_succ,i64_w]
  rfl
 refine take_ (i:=0) (N:=some 54) (v:=?_) (a':=?_) (TF [1,1,2,3]) rfl rfl (by kernel_rfl) (fun _ _ _ h=>h) (Or.inl ⟨by rfl,?_⟩) hHeld ?_ ?_
 rotate_left
 ·rintro w' ⟨s0,s1⟩
  go_simp
  with_reducible rfl
 rotate_left
 ·simp only [Act.put,List.setIfInBounds_toArray,List.set_cons_zero,List.set_cons_succ,i64_w]
  rfl
 refine take_ (i:=1) (N:=some 55) (v:=?_) (a':=?_) (TF [4,3]) rfl rfl (by kernel_rfl) (fun _ _ _ h=>h) (Or.inl ⟨by rfl,?_⟩) hHeld ?_ ?_
 rotate_left
 ·rintro w' ⟨s0,s1⟩
  go_simp
  with_reducible rfl
 rotate_left
 ·simp only [Act.put,List.setIfInBounds_toArray,List.set_cons_zero,List.set_cons_succ,i64_w]
  rfl
 refine one_ (i:=4) (N:=some 58) (TF [5,2]) rfl rfl (by kernel_rfl) (by decide) (fun K hK=>?_)
 refine goes_ Tryd.func31 (by kernel_rfl) rfl #[.agg #[.int .i64 fl, .slice A0 l0.length c0], .int .i64 (wrap64 ((l0.length:Int) - 1))] (by rfl) rfl rfl (by simp only [List.map_toArray,List.map_cons,List.map_nil];rfl) ?_
 with_reducible refine (barquelaw22_has.calls k fl A0 c0 l0 (wrap64 ((l0.length:Int) - 1)) r1 r2 r3 r4 r5 W1 (Kd.C_below HR0.out HD.out.bel) HC0.out HH.out).mono ?_
 rintro e W2 ⟨v4,v5,rfl,g4,g5,hb⟩
 obtain ⟨A4,c4,rfl⟩:=Kd.R_slice g4
 obtain ⟨A5,c5,rfl⟩:=Kd.R_slice g5
 refine ⟨_,rfl,?_⟩
 have G4:=Aside0.mk (Kd.R_lower g4 HD.out.bel.size)
 have G5:=Aside0.mk (Kd.R_lower g5 HD.out.bel.size)
 have n0_:=Aside0.mk (HD.out.below hb)
 clear HD
 have HD:=n0_
 clear n0_
 clear hb g4 g5
 have z20:W2.cell? ⟨w.heap.size+1+1,0,none⟩=some (.int .i64 0):=(blk_cell (HD.out.at_ 2 _ _ rfl) 0).trans rfl
 have y20:W2.frozen? ⟨w.heap.size+1+1,0,none⟩=false:=blk_frozen (HD.out.at_ 2 _ _ rfl) 0
 have z21:W2.cell? ⟨w.heap.size+1+1,1,none⟩=some (.slice none 0 0):=(blk_cell (HD.out.at_ 2 _ _ rfl) 1).trans rfl
 have y21:W2.frozen? ⟨w.heap.size+1+1,1,none⟩=false:=blk_frozen (HD.out.at_ 2 _ _ rfl) 1
 have z30:W2.cell? ⟨w.heap.size+1+1+1,0,none⟩=some (.int .i64 0):=(blk_cell (HD.out.at_ 3 _ _ rfl) 0).trans rfl
 have y30:W2.frozen? ⟨w.heap.size+1+1+1,0,none⟩=false:=blk_frozen (HD.out.at_ 3 _ _ rfl) 0
 have z31:W2.cell? ⟨w.heap.size+1+1+1,1,none⟩=some (.int .i64 0):=(blk_cell (HD.out.at_ 3 _ _ rfl) 1).trans rfl
 have y31:W2.frozen? ⟨w.heap.size+1+1+1,1,none⟩=false:=blk_frozen (HD.out.at_ 3 _ _ rfl) 1
 have z32:W2.cell? ⟨w.heap.size+1+1+1,2,none⟩=some (.int .i64 0):=(blk_cell (HD.out.at_ 3 _ _ rfl) 2).trans rfl
 have y32:W2.frozen? ⟨w.heap.size+1+1+1,2,none⟩=false:=blk_frozen (HD.out.at_ 3 _ _ rfl) 2
 have z33:W2.cell? ⟨w.heap.size+1+1+1,3,none⟩=some (.slice none 0 0):=(blk_cell (HD.out.at_ 3 _ _ rfl) 3).trans rfl
 have y33:W2.frozen? ⟨w.heap.size+1+1+1,3,none⟩=false:=blk_frozen (HD.out.at_ 3 _ _ rfl) 3
 have z34:W2.cell? ⟨w.heap.size+1+1+1,4,none⟩=some (.slice none 0 0):=(blk_cell (HD.out.at_ 3 _ _ rfl) 4).trans rfl
 have y34:W2.frozen? ⟨w.heap.size+1+1+1,4,none⟩=false:=blk_frozen (HD.out.at_ 3 _ _ rfl) 4
 refine hK.out _ _ ⟨(blk_cell (HD.out.at_ 0 _ _ rfl) 0).trans rfl,(blk_cell (HD.out.at_ 0 _ _ rfl) 1).trans rfl⟩ (fun hHeld=>?_)
 clear hK K
 refine norm_ (a':=?_) ?_ ?_
 rotate_left
 ·show Act.put _ (some 58) _=_
  simp only [Act.put,List.setIfInBounds_toArray,List.set_cons_zero,List.set_cons_succ,i64_w]
  rfl
 refine last_ (i:=5) (N:=none) (TF [6,1]) rfl rfl (by kernel_rfl) (by decide) (fun K hK=>?_)
 refine skip_ (w1:=?_) (by rfl) rfl ?_ ?_
 rotate_left
 ·go_simp
  rfl
 refine hK.out _ _ ?_
 clear hK K
 refine last_ (i:=6) (N:=none) (TF [7]) rfl rfl (by kernel_rfl) (by decide) (fun K hK=>?_)
 refine skip_ (w1:=?_) (by rfl) rfl ?_ ?_
 rotate_left
 ·go_simp
  rfl
 refine hK.out _ _ ?_
 clear hK K
 refine done_ (by kernel_rfl) ?_
 go_wp2
 have P:=put_res (HD.out.at_ 2 _ _ rfl) (HD.out.at_ 3 _ _ rfl) (by omega) (.int .i64 fl) (.slice A0 l0.length c0) (.int .i64 r1) (.int .i64 r2) (.int .i64 r3) (.slice A4 r4.length c4) (.slice A5 r5.length c5)
 refine bodyPost_ret (results_cc rfl _ _ (w.heap.size+1+1) (w.heap.size+1+1+1) 33 39 #[.int .i64 fl, .slice A0 l0.length c0] #[.int .i64 r1, .int .i64 r2, .int .i64 r3, .slice A4 r4.length c4, .slice A5 r5.length c5] (0,0) (0,0) _ _ rfl P.1 Tryd.underlying33 rfl (by kernel_rfl) rfl P.2.1 Tryd.underlying39 rfl (by kernel_rfl)) rfl ?_
 refine ⟨_,_,_,rfl, .inl ⟨rfl,rfl⟩,R_only G4.out (HD.out.at_ 2 _ _ rfl) (HD.out.at_ 3 _ _ rfl) (by decide) (by decide) P.2.2,R_only G5.out (HD.out.at_ 2 _ _ rfl) (HD.out.at_ 3 _ _ rfl) (by decide) (by decide) P.2.2,?_⟩
 iterate 7 refine below_set ?_ (by omega)
 exact HD.out.bel
set_option maxHeartbeats 8000000 in
set_option maxRecDepth 100000 in
theorem barquelaw22_do.three (k:Nat) (fl:Int) (A0:Option Addr) (c0:Nat) (l0:List ByteArray) (kind gen:Int) (A1:Option Addr) (c1:Nat) (l1:List S66) (w:World) (hr0:Kd.C Kd.string w A0 l0.length l0) (hc0:l0.length≤c0) (hr1:Kd.C k66 w A1 l1.length l1) (hc1:l1.length≤c1) (h1:(kind == 1)=false) (h2:(kind == 2)=false) (h3:(kind == 3)=true) (hg:decide (gen < 0)=false) (r1 r2 r3:Int) (r4:List S66) (r5:List ByteArray) (h:barquelaw22_has.f k fl l0 (gen)=some (r1,r2,r3,r4,r5)):
  Calls Tryd.prog 16 #[.agg #[.int .i64 fl, .slice A0 l0.length c0], .agg #[.int .i64 kind, .int .i64 gen, .slice A1 l1.length c1]] w (DoPost w A0 c0 l0 (fl,l0,r1,r2,r3,r4,r5)):=by
 have hlm:=hr0.2.1
 have HR0:=Aside0.mk hr0
 have HC0:=Aside0.mk hc0
 have HR1:=Aside0.mk hr1
 have HC1:=Aside0.mk hc1
 clear hr0 hc0 hr1 hc1
 have HH:=Aside0.mk h
 clear h
 go_enter Tryd.func16,Tryd.ntmps16
 go_wp2
 have HD:=Aside0.mk (Bx.five w #[.int .i64 fl, .slice A0 l0.length c0] #[.int .i64 kind, .int .i64 gen, .slice A1 l1.length c1] #[.int .i64 0, .slice none 0 0] #[.int .i64 0, .int .i64 0, .int .i64 0, .slice none 0 0, .slice none 0 0] #[.int .i64 0, .int .i64 (l0.length:Int), .int .i64 fl, .slice none 0 0, .slice none 0 0] 33 43 33 39 39)
 generalize ((((w.alloc (.cells #[.int .i64 fl, .slice A0 l0.length c0] 33)).alloc (.cells #[.int .i64 kind, .int .i64 gen, .slice A1 l1.length c1] 43)).alloc (.cells #[.int .i64 0, .slice none 0 0] 33)).alloc (.cells #[.int .i64 0, .int .i64 0, .int .i64 0, .slice none 0 0, .slice none 0 0] 39)).alloc (.cells #[.int .i64 0, .int .i64 (l0.length:Int), .int .i64 fl, .slice none 0 0, .slice none 0 0] 39)=W at HD ⊢
 refine start_ (n:=7) (S:=fun w'=>w'.cell? ⟨w.heap.size,0,none⟩=some (.int .i64 fl)∧w'.cell? ⟨w.heap.size,1,none⟩=some (.slice A0 l0.length c0)∧w'.cell? ⟨w.heap.size+1,1,none⟩=some (.int .i64 gen)) (ds:=[5,6]) (TF [0,7]) (by kernel_rfl) rfl rfl ⟨(blk_cell (HD.out.at_ 0 _ _ rfl) 0).trans rfl,(blk_cell (HD.out.at_ 0 _ _ rfl) 1).trans rfl,(blk_cell (HD.out.at_ 1 _ _ rfl) 1).trans rfl⟩ (fun hHeld=>?_)
 have n0_:=Aside0.mk (HD.out.drew)
 clear HD
 have HD:=n0_
 clear n0_
 generalize W.drew=W1 at HD hHeld ⊢
 refine pure_ (i:=2) (N:=some 68) (v:=?_) (a':=?_) (TF [0,2,1,4]) rfl rfl (by kernel_rfl) (fun _ _ _ h=>h) (Or.inl ⟨by rfl,?_⟩) ?_ ?_
 rotate_left
 ·intro w'
  go_simp
  with_reducible rfl
 rotate_left
 ·simp only [Act.put,List.setIfInBounds_toArray,List.set_cons_zero,List.set_cons_succ,i64_w]
  rfl
 refine take_ (i:=0) (N:=some 66) (v:=?_) (a':=?_) (TF [1,1,1,4]) rfl rfl (by kernel_rfl) (fun _ _ _ h=>h) (Or.inl ⟨by rfl,?_⟩) hHeld ?_ ?_
 rotate_left
 ·rintro w' ⟨s0,s1,s2⟩
  go_simp
  with_reducible rfl
 rotate_left
 ·simp only [Act.put,List.setIfInBounds_toArray,List.set_cons_zero,List.set_cons_succ,i64_w]
  rfl
 refine take_ (i:=1) (N:=some 67) (v:=?_) (a':=?_) (TF [3,4]) rfl rfl (by kernel_rfl) (fun _ _ _ h=>h) (Or.inl ⟨by rfl,?_⟩) hHeld ?_ ?_
 rotate_left
 ·rintro w' ⟨s0,s1,s2⟩
  go_simp
  with_reducible rfl
 rotate_left
 ·simp only [Act.put,List.setIfInBounds_toArray,List.set_cons_zero,List.set_cons_succ,i64_w]
  rfl
 refine take_ (i:=3) (N:=some 69) (v:=?_) (a':=?_) (TF [4,3]) rfl rfl (by kernel_rfl) (fun _ _ _ h=>h) (Or.inl ⟨by rfl,?_⟩) hHeld ?_ ?_
 rotate_left
 ·rintro w' ⟨s0,s1,s2⟩
  go_simp
  with_reducible rfl
 rotate_left
 ·simp only [Act.put,List.setIfInBounds_toArray,List.set_cons_zero,List.set_cons_succ,i64_w]
  rfl
 refine one_ (i:=4) (N:=some 70) (TF [5,2]) rfl rfl (by kernel_rfl) (by decide) (fun K hK=>?_)
 refine goes_ Tryd.func31 (by kernel_rfl) rfl #[.agg #[.int .i64 fl, .slice A0 l0.length c0], .int .i64 (gen)] (by rfl) rfl rfl (by simp only [List.map_toArray,List.map_cons,List.map_nil];rfl) ?_
 with_reducible refine (barquelaw22_has.calls k fl A0 c0 l0 (gen) r1 r2 r3 r4 r5 W1 (Kd.C_below HR0.out HD.out.bel) HC0.out HH.out).mono ?_
 rintro e W2 ⟨v4,v5,rfl,g4,g5,hb⟩
 obtain ⟨A4,c4,rfl⟩:=Kd.R_slice g4
 obtain ⟨A5,c5,rfl⟩:=Kd.R_slice g5
 refine ⟨_,rfl,?_⟩
 have G4:=Aside0.mk (Kd.R_lower g4 HD.out.bel.size)
 have G5:=Aside0.mk (Kd.R_lower g5 HD.out.bel.size)
 have n0_:=Aside0.mk (HD.out.below hb)
 clear HD
 have HD:=n0_
 clear n0_
 clear hb g4 g5
 have z20:W2.cell? ⟨w.heap.size+1+1,0,none⟩=some (.int .i64 0):=(blk_cell (HD.out.at_ 2 _ _ rfl) 0).trans rfl
 have y20:W2.frozen? ⟨w.heap.size+1+1,0,none⟩=false:=blk_frozen (HD.out.at_ 2 _ _ rfl) 0
 have z21:W2.cell? ⟨w.heap.size+1+1,1,none⟩=some (.slice none 0 0):=(blk_cell (HD.out.at_ 2 _ _ rfl) 1).trans rfl
 have y21:W2.frozen? ⟨w.heap.size+1+1,1,none⟩=false:=blk_frozen (HD.out.at_ 2 _ _ rfl) 1
 have z30:W2.cell? ⟨w.heap.size+1+1+1,0,none⟩=some (.int .i64 0):=(blk_cell (HD.out.at_ 3 _ _ rfl) 0).trans rfl
 have y30:W2.frozen? ⟨w.heap.size+1+1+1,0,none⟩=false:=blk_frozen (HD.out.at_ 3 _ _ rfl) 0
 have z31:W2.cell? ⟨w.heap.size+1+1+1,1,none⟩=some (.int .i64 0):=(blk_cell (HD.out.at_ 3 _ _ rfl) 1).trans rfl
 have y31:W2.frozen? ⟨w.heap.size+1+1+1,1,none⟩=false:=blk_frozen (HD.out.at_ 3 _ _ rfl) 1
 have z32:W2.cell? ⟨w.heap.size+1+1+1,2,none⟩=some (.int .i64 0):=(blk_cell (HD.out.at_ 3 _ _ rfl) 2).trans rfl
 have y32:W2.frozen? ⟨w.heap.size+1+1+1,2,none⟩=false:=blk_frozen (HD.out.at_ 3 _ _ rfl) 2
 have z33:W2.cell? ⟨w.heap.size+1+1+1,3,none⟩=some (.slice none 0 0):=(blk_cell (HD.out.at_ 3 _ _ rfl) 3).trans rfl
 have y33:W2.frozen? ⟨w.heap.size+1+1+1,3,none⟩=false:=blk_frozen (HD.out.at_ 3 _ _ rfl) 3
 have z34:W2.cell? ⟨w.heap.size+1+1+1,4,none⟩=some (.slice none 0 0):=(blk_cell (HD.out.at_ 3 _ _ rfl) 4).trans rfl
 have y34:W2.frozen? ⟨w.heap.size+1+1+1,4,none⟩=false:=blk_frozen (HD.out.at_ 3 _ _ rfl) 4
 refine hK.out _ _ ⟨(blk_cell (HD.out.at_ 0 _ _ rfl) 0).trans rfl,(blk_cell (HD.out.at_ 0 _ _ rfl) 1).trans rfl,(blk_cell (HD.out.at_ 1 _ _ rfl) 1).trans rfl⟩ (fun hHeld=>?_)
 clear hK K
 refine norm_ (a':=?_) ?_ ?_
 rotate_left
 ·show Act.put _ (some 70) _=_
  simp only [Act.put,List.setIfInBounds_toArray,List.set_cons_zero,List.set_cons_succ,i64_w]
  rfl
 refine last_ (i:=5) (N:=none) (TF [6,1]) rfl rfl (by kernel_rfl) (by decide) (fun K hK=>?_)
 refine skip_ (w1:=?_) (by rfl) rfl ?_ ?_
 rotate_left
 ·go_simp
  rfl
 refine hK.out _ _ ?_
 clear hK K
 refine last_ (i:=6) (N:=none) (TF [7]) rfl rfl (by kernel_rfl) (by decide) (fun K hK=>?_)
 refine skip_ (w1:=?_) (by rfl) rfl ?_ ?_
 rotate_left
 ·go_simp
  rfl
 refine hK.out _ _ ?_
 clear hK K
 refine done_ (by kernel_rfl) ?_
 go_wp2
 have P:=put_res (HD.out.at_ 2 _ _ rfl) (HD.out.at_ 3 _ _ rfl) (by omega) (.int .i64 fl) (.slice A0 l0.length c0) (.int .i64 r1) (.int .i64 r2) (.int .i64 r3) (.slice A4 r4.length c4) (.slice A5 r5.length c5)
 refine bodyPost_ret (results_cc rfl _ _ (w.heap.size+1+1) (w.heap.size+1+1+1) 33 39 #[.int .i64 fl, .slice A0 l0.length c0] #[.int .i64 r1, .int .i64 r2, .int .i64 r3, .slice A4 r4.length c4, .slice A5 r5.length c5] (0,0) (0,0) _ _ rfl P.1 Tryd.underlying33 rfl (by kernel_rfl) rfl P.2.1 Tryd.underlying39 rfl (by kernel_rfl)) rfl ?_
 refine ⟨_,_,_,rfl, .inl ⟨rfl,rfl⟩,R_only G4.out (HD.out.at_ 2 _ _ rfl) (HD.out.at_ 3 _ _ rfl) (by decide) (by decide) P.2.2,R_only G5.out (HD.out.at_ 2 _ _ rfl) (HD.out.at_ 3 _ _ rfl) (by decide) (by decide) P.2.2,?_⟩
 iterate 7 refine below_set ?_ (by omega)
 exact HD.out.bel
set_option maxHeartbeats 8000000 in
set_option maxRecDepth 100000 in
theorem barquelaw22_do.one_err (k:Nat) (fl:Int) (A0:Option Addr) (c0:Nat) (l0:List ByteArray) (kind gen:Int) (A1:Option Addr) (c1:Nat) (l1:List S66) (w:World) (hr0:Kd.C Kd.string w A0 l0.length l0) (hc0:l0.length≤c0) (hr1:Kd.C k66 w A1 l1.length l1) (hc1:l1.length≤c1) (s1:ByteArray) (e1:Int) (h:barqueref10_Of.f k l1=some (s1,e1)) (h1:(kind == 1)=true) (he:(e1 == 0)=false) (he2:(e1 != 0)=true):
  Calls Tryd.prog 16 #[.agg #[.int .i64 fl, .slice A0 l0.length c0], .agg #[.int .i64 kind, .int .i64 gen, .slice A1 l1.length c1]] w (DoPost w A0 c0 l0 (fl,l0,e1,0,0,[],[])):=by
 have hlm:=hr0.2.1
 have HR0:=Aside0.mk hr0
 have HC0:=Aside0.mk hc0
 have HR1:=Aside0.mk hr1
 have HC1:=Aside0.mk hc1
 clear hr0 hc0 hr1 hc1
 have HS:=Aside0.mk h
 clear h
 go_enter Tryd.func16,Tryd.ntmps16
 go_wp2_with (first|(go_at_call 30;(with_reducible refine (barqueref10_Of.calls k A1 c1 l1 s1 e1 _ (Kd.C_below HR1.out (Bx.five w #[.int .i64 fl, .slice A0 l0.length c0] #[.int .i64 kind, .int .i64 gen, .slice A1 l1.length c1] #[.int .i64 0, .slice none 0 0] #[.int .i64 0, .int .i64 0, .int .i64 0, .slice none 0 0, .slice none 0 0] #[.int .i64 0, .int .i64 (l0.length:Int), .int .i64 fl, .slice none 0 0, .slice none 0 0] 33 43 33 39 39).bel) HC1.out HS.out).mono ?_);rintro e w1 ⟨rfl,hb⟩;have HD:=Aside0.mk ((Bx.five w #[.int .i64 fl, .slice A0 l0.length c0] #[.int .i64 kind, .int .i64 gen, .slice A1 l1.length c1] #[.int .i64 0, .slice none 0 0] #[.int .i64 0, .int .i64 0, .int .i64 0, .slice none 0 0, .slice none 0 0] #[.int .i64 0, .int .i64 (l0.length:Int), .int .i64 fl, .slice none 0 0, .slice none 0 0] 33 43 33 39 39).below hb);clear hb;have z00:w1.cell? ⟨w.heap.size,0,none⟩=some (.int .i64 fl):=(blk_cell (HD.out.at_ 0 _ _ rfl) 0).trans rfl;have y00:w1.frozen? ⟨w.heap.size,0,none⟩=false:=blk_frozen (HD.out.at_ 0 _ _ rfl) 0;have z01:w1.cell? ⟨w.heap.size,1,none⟩=some (.slice A0 l0.length c0):=(blk_cell (HD.out.at_ 0 _ _ rfl) 1).trans rfl;have y01:w1.frozen? ⟨w.heap.size,1,none⟩=false:=blk_frozen (HD.out.at_ 0 _ _ rfl) 1;have z20:w1.cell? ⟨w.heap.size+1+1,0,none⟩=some (.int .i64 0):=(blk_cell (HD.out.at_ 2 _ _ rfl) 0).trans rfl;have y20:w1.frozen? ⟨w.heap.size+1+1,0,none⟩=false:=blk_frozen (HD.out.at_ 2 _ _ rfl) 0;have z21:w1.cell? ⟨w.heap.size+1+1,1,none⟩=some (.slice none 0 0):=(blk_cell (HD.out.at_ 2 _ _ rfl) 1).trans rfl;have y21:w1.frozen? ⟨w.heap.size+1+1,1,none⟩=false:=blk_frozen (HD.out.at_ 2 _ _ rfl) 1;have z30:w1.cell? ⟨w.heap.size+1+1+1,0,none⟩=some (.int .i64 0):=(blk_cell (HD.out.at_ 3 _ _ rfl) 0).trans rfl;have y30:w1.frozen? ⟨w.heap.size+1+1+1,0,none⟩=false:=blk_frozen (HD.out.at_ 3 _ _ rfl) 0;have z31:w1.cell? ⟨w.heap.size+1+1+1,1,none⟩=some (.int .i64 0):=(blk_cell (HD.out.at_ 3 _ _ rfl) 1).trans rfl;have y31:w1.frozen? ⟨w.heap.size+1+1+1,1,none⟩=false:=blk_frozen (HD.out.at_ 3 _ _ rfl) 1;have z32:w1.cell? ⟨w.heap.size+1+1+1,2,none⟩=some (.int .i64 0):=(blk_cell (HD.out.at_ 3 _ _ rfl) 2).trans rfl;have y32:w1.frozen? ⟨w.heap.size+1+1+1,2,none⟩=false:=blk_frozen (HD.out.at_ 3 _ _ rfl) 2;have z33:w1.cell? ⟨w.heap.size+1+1+1,3,none⟩=some (.slice none 0 0):=(blk_cell (HD.out.at_ 3 _ _ rfl) 3).trans rfl;have y33:w1.frozen? ⟨w.heap.size+1+1+1,3,none⟩=false:=blk_frozen (HD.out.at_ 3 _ _ rfl) 3;have z34:w1.cell? ⟨w.heap.size+1+1+1,4,none⟩=some (.slice none 0 0):=(blk_cell (HD.out.at_ 3 _ _ rfl) 4).trans rfl;have y34:w1.frozen? ⟨w.heap.size+1+1+1,4,none⟩=false:=blk_frozen (HD.out.at_ 3 _ _ rfl) 4))
 have P:=put_res (HD.out.at_ 2 _ _ rfl) (HD.out.at_ 3 _ _ rfl) (by omega) (.int .i64 fl) (.slice A0 l0.length c0) (.int .i64 e1) (.int .i64 0) (.int .i64 0) (.slice none 0 0) (.slice none 0 0)
 refine bodyPost_ret (results_cc rfl _ _ (w.heap.size+1+1) (w.heap.size+1+1+1) 33 39 #[.int .i64 fl, .slice A0 l0.length c0] #[.int .i64 e1, .int .i64 0, .int .i64 0, .slice none 0 0, .slice none 0 0] (0,0) (0,0) _ _ rfl P.1 Tryd.underlying33 rfl (by kernel_rfl) rfl P.2.1 Tryd.underlying39 rfl (by kernel_rfl)) rfl ?_
 refine ⟨_,_,_,rfl, .inl ⟨rfl,rfl⟩,Kd.R_nil _ _ _ _ _,Kd.R_nil _ _ _ _ _,?_⟩
 iterate 7 refine below_set ?_ (by omega)
 exact HD.out.bel
set_option maxHeartbeats 8000000 in
set_option maxRecDepth 100000 in
theorem barquelaw22_do.one_full (k:Nat) (fl:Int) (A0:Option Addr) (c0:Nat) (l0:List ByteArray) (kind gen:Int) (A1:Option Addr) (c1:Nat) (l1:List S66) (w:World) (hr0:Kd.C Kd.string w A0 l0.length l0) (hc0:l0.length≤c0) (hr1:Kd.C k66 w A1 l1.length l1) (hc1:l1.length≤c1) (s1:ByteArray) (e1:Int) (h:barqueref10_Of.f k l1=some (s1,e1)) (h1:(kind == 1)=true) (he:(e1 == 0)=true) (he2:(e1 != 0)=false) (hq:decide (32≤wrap64 ((l0.length:Int) - fl))=true):
  Calls Tryd.prog 16 #[.agg #[.int .i64 fl, .slice A0 l0.length c0], .agg #[.int .i64 kind, .int .i64 gen, .slice A1 l1.length c1]] w (DoPost w A0 c0 l0 (fl,l0,7,0,0,[],[])):=by
 have hlm:=hr0.2.1
 have HR0:=Aside0.mk hr0
 have HC0:=Aside0.mk hc0
 have HR1:=Aside0.mk hr1
 have HC1:=Aside0.mk hc1
 clear hr0 hc0 hr1 hc1
 have HS:=Aside0.mk h
 clear h
 go_enter Tryd.func16,Tryd.ntmps16
 go_wp2_with (first|(go_at_call 30;(with_reducible refine (barqueref10_Of.calls k A1 c1 l1 s1 e1 _ (Kd.C_below HR1.out (Bx.five w #[.int .i64 fl, .slice A0 l0.length c0] #[.int .i64 kind, .int .i64 gen, .slice A1 l1.length c1] #[.int .i64 0, .slice none 0 0] #[.int .i64 0, .int .i64 0, .int .i64 0, .slice none 0 0, .slice none 0 0] #[.int .i64 0, .int .i64 (l0.length:Int), .int .i64 fl, .slice none 0 0, .slice none 0 0] 33 43 33 39 39).bel) HC1.out HS.out).mono ?_);rintro e w1 ⟨rfl,hb⟩;have HD:=Aside0.mk ((Bx.five w #[.int .i64 fl, .slice A0 l0.length c0] #[.int .i64 kind, .int .i64 gen, .slice A1 l1.length c1] #[.int .i64 0, .slice none 0 0] #[.int .i64 0, .int .i64 0, .int .i64 0, .slice none 0 0, .slice none 0 0] #[.int .i64 0, .int .i64 (l0.length:Int), .int .i64 fl, .slice none 0 0, .slice none 0 0] 33 43 33 39 39).below hb);clear hb;have z00:w1.cell? ⟨w.heap.size,0,none⟩=some (.int .i64 fl):=(blk_cell (HD.out.at_ 0 _ _ rfl) 0).trans rfl;have y00:w1.frozen? ⟨w.heap.size,0,none⟩=false:=blk_frozen (HD.out.at_ 0 _ _ rfl) 0;have z01:w1.cell? ⟨w.heap.size,1,none⟩=some (.slice A0 l0.length c0):=(blk_cell (HD.out.at_ 0 _ _ rfl) 1).trans rfl;have y01:w1.frozen? ⟨w.heap.size,1,none⟩=false:=blk_frozen (HD.out.at_ 0 _ _ rfl) 1;have z20:w1.cell? ⟨w.heap.size+1+1,0,none⟩=some (.int .i64 0):=(blk_cell (HD.out.at_ 2 _ _ rfl) 0).trans rfl;have y20:w1.frozen? ⟨w.heap.size+1+1,0,none⟩=false:=blk_frozen (HD.out.at_ 2 _ _ rfl) 0;have z21:w1.cell? ⟨w.heap.size+1+1,1,none⟩=some (.slice none 0 0):=(blk_cell (HD.out.at_ 2 _ _ rfl) 1).trans rfl;have y21:w1.frozen? ⟨w.heap.size+1+1,1,none⟩=false:=blk_frozen (HD.out.at_ 2 _ _ rfl) 1;have z30:w1.cell? ⟨w.heap.size+1+1+1,0,none⟩=some (.int .i64 0):=(blk_cell (HD.out.at_ 3 _ _ rfl) 0).trans rfl;have y30:w1.frozen? ⟨w.heap.size+1+1+1,0,none⟩=false:=blk_frozen (HD.out.at_ 3 _ _ rfl) 0;have z31:w1.cell? ⟨w.heap.size+1+1+1,1,none⟩=some (.int .i64 0):=(blk_cell (HD.out.at_ 3 _ _ rfl) 1).trans rfl;have y31:w1.frozen? ⟨w.heap.size+1+1+1,1,none⟩=false:=blk_frozen (HD.out.at_ 3 _ _ rfl) 1;have z32:w1.cell? ⟨w.heap.size+1+1+1,2,none⟩=some (.int .i64 0):=(blk_cell (HD.out.at_ 3 _ _ rfl) 2).trans rfl;have y32:w1.frozen? ⟨w.heap.size+1+1+1,2,none⟩=false:=blk_frozen (HD.out.at_ 3 _ _ rfl) 2;have z33:w1.cell? ⟨w.heap.size+1+1+1,3,none⟩=some (.slice none 0 0):=(blk_cell (HD.out.at_ 3 _ _ rfl) 3).trans rfl;have y33:w1.frozen? ⟨w.heap.size+1+1+1,3,none⟩=false:=blk_frozen (HD.out.at_ 3 _ _ rfl) 3;have z34:w1.cell? ⟨w.heap.size+1+1+1,4,none⟩=some (.slice none 0 0):=(blk_cell (HD.out.at_ 3 _ _ rfl) 4).trans rfl;have y34:w1.frozen? ⟨w.heap.size+1+1+1,4,none⟩=false:=blk_frozen (HD.out.at_ 3 _ _ rfl) 4))
 have P:=put_res (HD.out.at_ 2 _ _ rfl) (HD.out.at_ 3 _ _ rfl) (by omega) (.int .i64 fl) (.slice A0 l0.length c0) (.int .i64 7) (.int .i64 0) (.int .i64 0) (.slice none 0 0) (.slice none 0 0)
 refine bodyPost_ret (results_cc rfl _ _ (w.heap.size+1+1) (w.heap.size+1+1+1) 33 39 #[.int .i64 fl, .slice A0 l0.length c0] #[.int .i64 7, .int .i64 0, .int .i64 0, .slice none 0 0, .slice none 0 0] (0,0) (0,0) _ _ rfl P.1 Tryd.underlying33 rfl (by kernel_rfl) rfl P.2.1 Tryd.underlying39 rfl (by kernel_rfl)) rfl ?_
 refine ⟨_,_,_,rfl, .inl ⟨rfl,rfl⟩,Kd.R_nil _ _ _ _ _,Kd.R_nil _ _ _ _ _,?_⟩
 iterate 7 refine below_set ?_ (by omega)
 exact HD.out.bel
set_option maxHeartbeats 8000000 in
set_option maxRecDepth 100000 in
theorem barquelaw22_do.one_ok (k:Nat) (fl:Int) (A0:Option Addr) (c0:Nat) (l0:List ByteArray) (kind gen:Int) (A1:Option Addr) (c1:Nat) (l1:List S66) (w:World) (hr0:Kd.C Kd.string w A0 l0.length l0) (hc0:l0.length≤c0) (hr1:Kd.C k66 w A1 l1.length l1) (hc1:l1.length≤c1) (s1:ByteArray) (e1:Int) (h:barqueref10_Of.f k l1=some (s1,e1)) (h1:(kind == 1)=true) (he:(e1 == 0)=true) (he2:(e1 != 0)=false) (hq:decide (32≤wrap64 ((l0.length:Int) - fl))=false) (hl:l0.length < 8796093022207):
  Calls Tryd.prog 16 #[.agg #[.int .i64 fl, .slice A0 l0.length c0], .agg #[.int .i64 kind, .int .i64 gen, .slice A1 l1.length c1]] w (DoPost w A0 c0 l0 (fl,l0++[s1],0,(l0.length:Int),fl,[],[])):=by
 have hlm:=hr0.2.1
 have HR0:=Aside0.mk hr0
 have HC0:=Aside0.mk hc0
 have HR1:=Aside0.mk hr1
 have HC1:=Aside0.mk hc1
 clear hr0 hc0 hr1 hc1
 have HS:=Aside0.mk h
 have LM:=Aside0.mk hl
 clear h hl
 go_enter Tryd.func16,Tryd.ntmps16
 go_wp2_with (first|(go_at_call 30;(with_reducible refine (barqueref10_Of.calls k A1 c1 l1 s1 e1 _ (Kd.C_below HR1.out (Bx.five w #[.int .i64 fl, .slice A0 l0.length c0] #[.int .i64 kind, .int .i64 gen, .slice A1 l1.length c1] #[.int .i64 0, .slice none 0 0] #[.int .i64 0, .int .i64 0, .int .i64 0, .slice none 0 0, .slice none 0 0] #[.int .i64 0, .int .i64 (l0.length:Int), .int .i64 fl, .slice none 0 0, .slice none 0 0] 33 43 33 39 39).bel) HC1.out HS.out).mono ?_);rintro e w1 ⟨rfl,hb⟩;have HD:=Aside0.mk ((Bx.five w #[.int .i64 fl, .slice A0 l0.length c0] #[.int .i64 kind, .int .i64 gen, .slice A1 l1.length c1] #[.int .i64 0, .slice none 0 0] #[.int .i64 0, .int .i64 0, .int .i64 0, .slice none 0 0, .slice none 0 0] #[.int .i64 0, .int .i64 (l0.length:Int), .int .i64 fl, .slice none 0 0, .slice none 0 0] 33 43 33 39 39).below hb);clear hb;have z00:w1.cell? ⟨w.heap.size,0,none⟩=some (.int .i64 fl):=(blk_cell (HD.out.at_ 0 _ _ rfl) 0).trans rfl;have y00:w1.frozen? ⟨w.heap.size,0,none⟩=false:=blk_frozen (HD.out.at_ 0 _ _ rfl) 0;have z01:w1.cell? ⟨w.heap.size,1,none⟩=some (.slice A0 l0.length c0):=(blk_cell (HD.out.at_ 0 _ _ rfl) 1).trans rfl;have y01:w1.frozen? ⟨w.heap.size,1,none⟩=false:=blk_frozen (HD.out.at_ 0 _ _ rfl) 1;have z20:w1.cell? ⟨w.heap.size+1+1,0,none⟩=some (.int .i64 0):=(blk_cell (HD.out.at_ 2 _ _ rfl) 0).trans rfl;have y20:w1.frozen? ⟨w.heap.size+1+1,0,none⟩=false:=blk_frozen (HD.out.at_ 2 _ _ rfl) 0;have z21:w1.cell? ⟨w.heap.size+1+1,1,none⟩=some (.slice none 0 0):=(blk_cell (HD.out.at_ 2 _ _ rfl) 1).trans rfl;have y21:w1.frozen? ⟨w.heap.size+1+1,1,none⟩=false:=blk_frozen (HD.out.at_ 2 _ _ rfl) 1;have z30:w1.cell? ⟨w.heap.size+1+1+1,0,none⟩=some (.int .i64 0):=(blk_cell (HD.out.at_ 3 _ _ rfl) 0).trans rfl;have y30:w1.frozen? ⟨w.heap.size+1+1+1,0,none⟩=false:=blk_frozen (HD.out.at_ 3 _ _ rfl) 0;have z31:w1.cell? ⟨w.heap.size+1+1+1,1,none⟩=some (.int .i64 0):=(blk_cell (HD.out.at_ 3 _ _ rfl) 1).trans rfl;have y31:w1.frozen? ⟨w.heap.size+1+1+1,1,none⟩=false:=blk_frozen (HD.out.at_ 3 _ _ rfl) 1;have z32:w1.cell? ⟨w.heap.size+1+1+1,2,none⟩=some (.int .i64 0):=(blk_cell (HD.out.at_ 3 _ _ rfl) 2).trans rfl;have y32:w1.frozen? ⟨w.heap.size+1+1+1,2,none⟩=false:=blk_frozen (HD.out.at_ 3 _ _ rfl) 2;have z33:w1.cell? ⟨w.heap.size+1+1+1,3,none⟩=some (.slice none 0 0):=(blk_cell (HD.out.at_ 3 _ _ rfl) 3).trans rfl;have y33:w1.frozen? ⟨w.heap.size+1+1+1,3,none⟩=false:=blk_frozen (HD.out.at_ 3 _ _ rfl) 3;have z34:w1.cell? ⟨w.heap.size+1+1+1,4,none⟩=some (.slice none 0 0):=(blk_cell (HD.out.at_ 3 _ _ rfl) 4).trans rfl;have y34:w1.frozen? ⟨w.heap.size+1+1+1,4,none⟩=false:=blk_frozen (HD.out.at_ 3 _ _ rfl) 4))
 refine start_ (n:=13) (S:=fun w'=>w'.cell? ⟨w.heap.size,0,none⟩=some (.int .i64 fl)∧w'.cell? ⟨w.heap.size,1,none⟩=some (.slice A0 l0.length c0)∧w'.cell? ⟨w.heap.size+1+1+1+1,0,none⟩=some (.int .i64 0)∧w'.cell? ⟨w.heap.size+1+1+1+1,1,none⟩=some (.int .i64 (l0.length:Int))∧w'.cell? ⟨w.heap.size+1+1+1+1,2,none⟩=some (.int .i64 fl)∧w'.cell? ⟨w.heap.size+1+1+1+1,3,none⟩=some (.slice none 0 0)∧w'.cell? ⟨w.heap.size+1+1+1+1,4,none⟩=some (.slice none 0 0)) (ds:=[12]) (TF [0,13]) (by kernel_rfl) rfl rfl ⟨(blk_cell (HD.out.at_ 0 _ _ rfl) 0).trans rfl,(blk_cell (HD.out.at_ 0 _ _ rfl) 1).trans rfl,(blk_cell (HD.out.at_ 4 _ _ rfl) 0).trans rfl,(blk_cell (HD.out.at_ 4 _ _ rfl) 1).trans rfl,(blk_cell (HD.out.at_ 4 _ _ rfl) 2).trans rfl,(blk_cell (HD.out.at_ 4 _ _ rfl) 3).trans rfl,(blk_cell (HD.out.at_ 4 _ _ rfl) 4).trans rfl⟩ (fun hHeld=>?_)
 have n0_:=Aside0.mk (HD.out.drew)
 clear HD
 have HD:=n0_
 clear n0_
 clear z00 y00 z01 y01 z20 y20 z21 y21 z30 y30 z31 y31 z32 y32 z33 y33 z34 y34
 generalize w1.drew=W1 at HD hHeld ⊢
 refine pure_ (i:=0) (N:=some 41) (v:=?_) (a':=?_) (TF [1,12]) rfl rfl (by kernel_rfl) (fun _ _ _ h=>h) (Or.inl ⟨by rfl,?_⟩) ?_ ?_
 rotate_left
 ·intro w'
  go_simp
  with_reducible rfl
 rotate_left
 ·simp only [Act.put,List.setIfInBounds_toArray,List.set_cons_zero,List.set_cons_succ,i64_w]
  rfl
 refine pure_ (i:=3) (N:=some 44) (v:=?_) (a':=?_) (TF [1,2,1,9]) rfl rfl (by kernel_rfl) (fun _ _ _ h=>h) (Or.inl ⟨by rfl,?_⟩) ?_ ?_
 rotate_left
 ·intro w'
  go_simp
  with_reducible rfl
 rotate_left
 ·simp only [Act.put,List.setIfInBounds_toArray,List.set_cons_zero,List.set_cons_succ,i64_w]
  rfl
 refine pure_ (i:=6) (N:=some 47) (v:=?_) (a':=?_) (TF [1,2,1,2,1,6]) rfl rfl (by kernel_rfl) (fun _ _ _ h=>h) (Or.inl ⟨by rfl,?_⟩) ?_ ?_
 rotate_left
 ·intro w'
  go_simp
  with_reducible rfl
 rotate_left
 ·simp only [Act.put,List.setIfInBounds_toArray,List.set_cons_zero,List.set_cons_succ,i64_w]
  rfl
 refine take_ (i:=1) (N:=some 42) (v:=?_) (a':=?_) (TF [2,1,1,2,1,6]) rfl rfl (by kernel_rfl) (fun _ _ _ h=>h) (Or.inl ⟨by rfl,?_⟩) hHeld ?_ ?_
 rotate_left
 ·rintro w' ⟨s0,s1,s2,s3,s4,s5,s6⟩
  go_simp
  with_reducible rfl
 rotate_left
 ·simp only [Act.put,List.setIfInBounds_toArray,List.set_cons_zero,List.set_cons_succ,i64_w]
  rfl
 refine take_ (i:=4) (N:=some 45) (v:=?_) (a':=?_) (TF [2,1,2,1,1,6]) rfl rfl (by kernel_rfl) (fun _ _ _ h=>h) (Or.inl ⟨by rfl,?_⟩) hHeld ?_ ?_
 rotate_left
 ·rintro w' ⟨s0,s1,s2,s3,s4,s5,s6⟩
  go_simp
  with_reducible rfl
 rotate_left
 ·simp only [Act.put,List.setIfInBounds_toArray,List.set_cons_zero,List.set_cons_succ,i64_w]
  rfl
 refine take_ (i:=10) (N:=some 51) (v:=?_) (a':=?_) (TF [2,1,2,1,1,3,1,2]) rfl rfl (by kernel_rfl) (fun _ _ _ h=>h) (Or.inl ⟨by rfl,?_⟩) hHeld ?_ ?_
 rotate_left
 ·rintro w' ⟨s0,s1,s2,s3,s4,s5,s6⟩
  go_simp
  with_reducible rfl
 rotate_left
 ·simp only [Act.put,List.setIfInBounds_toArray,List.set_cons_zero,List.set_cons_succ,i64_w]
  rfl
 refine join_ (σ:=Value × Value × Value) 4 (TF [8,2,1,2]) (fun s_=>[(43,s_.1),(46,s_.2.1),(48,s_.2.2)]) (fun s_ w'=>Bx w [(#[.int .i64 fl, .slice A0 l0.length c0],33),(#[.int .i64 kind, .int .i64 gen, .slice A1 l1.length c1],43),(#[.int .i64 0, .slice none 0 0],33),(#[.int .i64 0, .int .i64 0, .int .i64 0, .slice none 0 0, .slice none 0 0],39),(#[.int .i64 0, .int .i64 (l0.length:Int), .int .i64 fl, .slice none 0 0, .slice none 0 0],39)] w'∧Kd.string.R 9 w' w.heap.size (fun _=>True) s_.2.1 l0∧Kd.string.R 9 w' w.heap.size (fun _=>True) s_.2.2 [s1]) ?_ ?_
 rotate_left
 ·intro hCont
  refine two_ (i:=2) (j:=7) (Ni:=some 43) (Nj:=some 48) (TF [5,1,1,3,1,2]) (TF [2,1,2,1,2,2,1,2]) rfl rfl rfl rfl (by kernel_rfl) (by decide) (by decide) (fun K hK=>?_) (fun K hK=>?_)
  ·skip
   refine Kd.R_lit_step Kd.string (w0:=w) w.heap.size 9 ?hg (N:=43) ?hd (xs:=([]:List ByteArray)) (inner:=[]) (ok:=fun _=>True) (okp:=fun _=>True) ?hr ?hp (fun _ hk=>hk) trivial HD.out.bel HD.out.bel.size (by simp) ?_;(case hd=>rfl);(case hg=>rfl);(case hr=>first|(go_simp;done)|(go_simp;rfl));(case hp=>exact Reps.none _ _)
   intro va W2 g0 hb hg_ hnew_
   have n0_:=Aside0.mk (HD.out.grown hg_ hb (fun _ _ _ _=>by simp))
   have n1_:=Aside0.mk (g0)
   (try clear HD)
   (try clear G1)
   have HD:=n0_
   have G1:=n1_
   clear n0_ n1_
   clear g0 hb hg_ hnew_
   refine hK.out _ _ ⟨(blk_cell (HD.out.at_ 0 _ _ rfl) 0).trans rfl,(blk_cell (HD.out.at_ 0 _ _ rfl) 1).trans rfl,(blk_cell (HD.out.at_ 4 _ _ rfl) 0).trans rfl,(blk_cell (HD.out.at_ 4 _ _ rfl) 1).trans rfl,(blk_cell (HD.out.at_ 4 _ _ rfl) 2).trans rfl,(blk_cell (HD.out.at_ 4 _ _ rfl) 3).trans rfl,(blk_cell (HD.out.at_ 4 _ _ rfl) 4).trans rfl⟩ (fun hHeld=>?_)
   clear hK K
   refine norm_ (a':=?_) ?_ ?_
   rotate_left
   ·show Act.put _ (some 43) _=_
    simp only [Act.put,List.setIfInBounds_toArray,List.set_cons_zero,List.set_cons_succ,i64_w]
    rfl
   refine two_ (i:=5) (j:=7) (Ni:=some 46) (Nj:=some 48) (TF [7,3,1,2]) (TF [5,1,2,2,1,2]) rfl rfl rfl rfl (by kernel_rfl) (by decide) (by decide) (fun K hK=>?_) (fun K hK=>?_)
   ·skip
    refine Kd.R_append_rows_step Kd.string (w0:=w) w.heap.size (by rfl) (.tmp 43) (.tmp 45) 31 9 (.string ⟨#[]⟩) 16 rfl Tryd.underlying31 info9 rfl (by decide) (by omega) va [] l0 _ _ _ (fun _=>True) (fun _=>False) rfl rfl G1.out ?aR (fun _ _ h=>h) (fun _ h=>h.elim) (fun _ _=>trivial) HD.out.bel HD.out.bel.size ?aL ?_
    (case aR=>exact Kd.C_below HR0.out HD.out.bel)
    (case aL=>have:=LM.out;simp;omega)
    intro vb W3 ho hb hg hat
    have n0_:=Aside0.mk (HD.out.grown hg hb (HD.out.ne G1.out (Bx.types5 (by decide) (by decide) (by decide) (by decide) (by decide))))
    have n1_:=Aside0.mk (ho)
    (try clear HD)
    (try clear G1)
    have HD:=n0_
    have G1:=n1_
    clear n0_ n1_
    clear ho hb hg hat
    refine hK.out _ _ ⟨(blk_cell (HD.out.at_ 0 _ _ rfl) 0).trans rfl,(blk_cell (HD.out.at_ 0 _ _ rfl) 1).trans rfl,(blk_cell (HD.out.at_ 4 _ _ rfl) 0).trans rfl,(blk_cell (HD.out.at_ 4 _ _ rfl) 1).trans rfl,(blk_cell (HD.out.at_ 4 _ _ rfl) 2).trans rfl,(blk_cell (HD.out.at_ 4 _ _ rfl) 3).trans rfl,(blk_cell (HD.out.at_ 4 _ _ rfl) 4).trans rfl⟩ (fun hHeld=>?_)
    clear hK K
    refine norm_ (a':=?_) ?_ ?_
    rotate_left
    ·show Act.put _ (some 46) _=_
     simp only [Act.put,List.setIfInBounds_toArray,List.set_cons_zero,List.set_cons_succ,i64_w]
     rfl
    refine one_ (i:=7) (N:=some 48) (TF [8,2,1,2]) rfl rfl (by kernel_rfl) (by decide) (fun K hK=>?_)
    refine Kd.R_lit_step Kd.string (w0:=w) w.heap.size 9 ?hg (N:=48) ?hd (xs:=([s1]:List ByteArray)) (inner:=[.string s1]) (ok:=fun _=>True) (okp:=fun _=>True) ?hr ?hp (fun _ hk=>hk) trivial HD.out.bel HD.out.bel.size (by simp) ?_;(case hd=>rfl);(case hg=>rfl);(case hr=>first|(go_simp;done)|(go_simp;rfl));(case hp=>exact (Reps.one (show Kd.M Kd.string _ _ _ s1 [.string s1] from rfl) (Reps.none _ _)))
    intro v2 W4 g0 hb hg_ hnew_
    have n0_:=Aside0.mk (HD.out.grown hg_ hb (fun _ _ _ _=>by simp))
    have n1_:=Aside0.mk (Kd.R_grown G1.out hg_ (fun _ _=>by simp))
    have n2_:=Aside0.mk (g0)
    (try clear HD)
    (try clear G1)
    (try clear G2)
    have HD:=n0_
    have G1:=n1_
    have G2:=n2_
    clear n0_ n1_ n2_
    clear g0 hb hg_ hnew_
    refine hK.out _ _ ⟨(blk_cell (HD.out.at_ 0 _ _ rfl) 0).trans rfl,(blk_cell (HD.out.at_ 0 _ _ rfl) 1).trans rfl,(blk_cell (HD.out.at_ 4 _ _ rfl) 0).trans rfl,(blk_cell (HD.out.at_ 4 _ _ rfl) 1).trans rfl,(blk_cell (HD.out.at_ 4 _ _ rfl) 2).trans rfl,(blk_cell (HD.out.at_ 4 _ _ rfl) 3).trans rfl,(blk_cell (HD.out.at_ 4 _ _ rfl) 4).trans rfl⟩ (fun hHeld=>?_)
    clear hK K
    refine norm_ (a':=?_) ?_ ?_
    rotate_left
    ·show Act.put _ (some 48) _=_
     simp only [Act.put,List.setIfInBounds_toArray,List.set_cons_zero,List.set_cons_succ,i64_w]
     rfl
    exact norm_ (by simp only [putAll,Act.put,List.setIfInBounds_toArray,List.set_cons_zero,List.set_cons_succ]) (hCont (va,vb,v2) _ ⟨HD.out,(show Kd.string.R 9 _ w.heap.size (fun _=>True) vb l0 from G1.out),G2.out⟩)
   ·skip
    refine Kd.R_lit_step Kd.string (w0:=w) w.heap.size 9 ?hg (N:=48) ?hd (xs:=([s1]:List ByteArray)) (inner:=[.string s1]) (ok:=fun _=>True) (okp:=fun _=>True) ?hr ?hp (fun _ hk=>hk) trivial HD.out.bel HD.out.bel.size (by simp) ?_;(case hd=>rfl);(case hg=>rfl);(case hr=>first|(go_simp;done)|(go_simp;rfl));(case hp=>exact (Reps.one (show Kd.M Kd.string _ _ _ s1 [.string s1] from rfl) (Reps.none _ _)))
    intro v2 W3 g0 hb hg_ hnew_
    have n0_:=Aside0.mk (HD.out.grown hg_ hb (fun _ _ _ _=>by simp))
    have n1_:=Aside0.mk (str_apart g0 (new_apart G1.out hnew_))
    have n2_:=Aside0.mk (Kd.R_grown G1.out hg_ (fun _ _=>by simp))
    (try clear HD)
    (try clear G2)
    (try clear G1)
    have HD:=n0_
    have G2:=n1_
    have G1:=n2_
    clear n0_ n1_ n2_
    clear g0 hb hg_ hnew_
    refine hK.out _ _ ⟨(blk_cell (HD.out.at_ 0 _ _ rfl) 0).trans rfl,(blk_cell (HD.out.at_ 0 _ _ rfl) 1).trans rfl,(blk_cell (HD.out.at_ 4 _ _ rfl) 0).trans rfl,(blk_cell (HD.out.at_ 4 _ _ rfl) 1).trans rfl,(blk_cell (HD.out.at_ 4 _ _ rfl) 2).trans rfl,(blk_cell (HD.out.at_ 4 _ _ rfl) 3).trans rfl,(blk_cell (HD.out.at_ 4 _ _ rfl) 4).trans rfl⟩ (fun hHeld=>?_)
    clear hK K
    refine norm_ (a':=?_) ?_ ?_
    rotate_left
    ·show Act.put _ (some 48) _=_
     simp only [Act.put,List.setIfInBounds_toArray,List.set_cons_zero,List.set_cons_succ,i64_w]
     rfl
    refine one_ (i:=5) (N:=some 46) (TF [8,2,1,2]) rfl rfl (by kernel_rfl) (by decide) (fun K hK=>?_)
    refine Kd.R_append_rows_step Kd.string (w0:=w) w.heap.size (by rfl) (.tmp 43) (.tmp 45) 31 9 (.string ⟨#[]⟩) 16 rfl Tryd.underlying31 info9 rfl (by decide) (by omega) va [] l0 _ _ _ (fun _=>True) (fun _=>False) rfl rfl G1.out ?aR (fun _ _ h=>h) (fun _ h=>h.elim) (fun _ _=>trivial) HD.out.bel HD.out.bel.size ?aL ?_
    (case aR=>exact Kd.C_below HR0.out HD.out.bel)
    (case aL=>have:=LM.out;simp;omega)
    intro vb W4 ho hb hg hat
    have n0_:=Aside0.mk (HD.out.grown hg hb (HD.out.ne G1.out (Bx.types5 (by decide) (by decide) (by decide) (by decide) (by decide))))
    have n1_:=Aside0.mk (ho)
    have n2_:=Aside0.mk (Kd.R_mono (Kd.R_after G2.out hg hat) (fun _ h=>h.1))
    (try clear HD)
    (try clear G1)
    (try clear G2)
    have HD:=n0_
    have G1:=n1_
    have G2:=n2_
    clear n0_ n1_ n2_
    clear ho hb hg hat
    refine hK.out _ _ ⟨(blk_cell (HD.out.at_ 0 _ _ rfl) 0).trans rfl,(blk_cell (HD.out.at_ 0 _ _ rfl) 1).trans rfl,(blk_cell (HD.out.at_ 4 _ _ rfl) 0).trans rfl,(blk_cell (HD.out.at_ 4 _ _ rfl) 1).trans rfl,(blk_cell (HD.out.at_ 4 _ _ rfl) 2).trans rfl,(blk_cell (HD.out.at_ 4 _ _ rfl) 3).trans rfl,(blk_cell (HD.out.at_ 4 _ _ rfl) 4).trans rfl⟩ (fun hHeld=>?_)
    clear hK K
    refine norm_ (a':=?_) ?_ ?_
    rotate_left
    ·show Act.put _ (some 46) _=_
     simp only [Act.put,List.setIfInBounds_toArray,List.set_cons_zero,List.set_cons_succ,i64_w]
     rfl
    exact norm_ (by simp only [putAll,Act.put,List.setIfInBounds_toArray,List.set_cons_zero,List.set_cons_succ]) (hCont (va,vb,v2) _ ⟨HD.out,(show Kd.string.R 9 _ w.heap.size (fun _=>True) vb l0 from G1.out),G2.out⟩)
  ·skip
   refine Kd.R_lit_step Kd.string (w0:=w) w.heap.size 9 ?hg (N:=48) ?hd (xs:=([s1]:List ByteArray)) (inner:=[.string s1]) (ok:=fun _=>True) (okp:=fun _=>True) ?hr ?hp (fun _ hk=>hk) trivial HD.out.bel HD.out.bel.size (by simp) ?_;(case hd=>rfl);(case hg=>rfl);(case hr=>first|(go_simp;done)|(go_simp;rfl));(case hp=>exact (Reps.one (show Kd.M Kd.string _ _ _ s1 [.string s1] from rfl) (Reps.none _ _)))
   intro v2 W2 g0 hb hg_ hnew_
   have n0_:=Aside0.mk (HD.out.grown hg_ hb (fun _ _ _ _=>by simp))
   have n1_:=Aside0.mk (g0)
   (try clear HD)
   (try clear G2)
   have HD:=n0_
   have G2:=n1_
   clear n0_ n1_
   clear g0 hb hg_ hnew_
   refine hK.out _ _ ⟨(blk_cell (HD.out.at_ 0 _ _ rfl) 0).trans rfl,(blk_cell (HD.out.at_ 0 _ _ rfl) 1).trans rfl,(blk_cell (HD.out.at_ 4 _ _ rfl) 0).trans rfl,(blk_cell (HD.out.at_ 4 _ _ rfl) 1).trans rfl,(blk_cell (HD.out.at_ 4 _ _ rfl) 2).trans rfl,(blk_cell (HD.out.at_ 4 _ _ rfl) 3).trans rfl,(blk_cell (HD.out.at_ 4 _ _ rfl) 4).trans rfl⟩ (fun hHeld=>?_)
   clear hK K
   refine norm_ (a':=?_) ?_ ?_
   rotate_left
   ·show Act.put _ (some 48) _=_
    simp only [Act.put,List.setIfInBounds_toArray,List.set_cons_zero,List.set_cons_succ,i64_w]
    rfl
   refine one_ (i:=2) (N:=some 43) (TF [5,1,2,2,1,2]) rfl rfl (by kernel_rfl) (by decide) (fun K hK=>?_)
   refine Kd.R_lit_step Kd.string (w0:=w) w.heap.size 9 ?hg (N:=43) ?hd (xs:=([]:List ByteArray)) (inner:=[]) (ok:=fun _=>True) (okp:=fun _=>True) ?hr ?hp (fun _ hk=>hk) trivial HD.out.bel HD.out.bel.size (by simp) ?_;(case hd=>rfl);(case hg=>rfl);(case hr=>first|(go_simp;done)|(go_simp;rfl));(case hp=>exact Reps.none _ _)
   intro va W3 g0 hb hg_ hnew_
   have n0_:=Aside0.mk (HD.out.grown hg_ hb (fun _ _ _ _=>by simp))
   have n1_:=Aside0.mk (g0)
   have n2_:=Aside0.mk (str_apart (Kd.R_grown G2.out hg_ (fun _ _=>by simp)) (apart_new G2.out hnew_))
   (try clear HD)
   (try clear G1)
   (try clear G2)
   have HD:=n0_
   have G1:=n1_
   have G2:=n2_
   clear n0_ n1_ n2_
   clear g0 hb hg_ hnew_
   refine hK.out _ _ ⟨(blk_cell (HD.out.at_ 0 _ _ rfl) 0).trans rfl,(blk_cell (HD.out.at_ 0 _ _ rfl) 1).trans rfl,(blk_cell (HD.out.at_ 4 _ _ rfl) 0).trans rfl,(blk_cell (HD.out.at_ 4 _ _ rfl) 1).trans rfl,(blk_cell (HD.out.at_ 4 _ _ rfl) 2).trans rfl,(blk_cell (HD.out.at_ 4 _ _ rfl) 3).trans rfl,(blk_cell (HD.out.at_ 4 _ _ rfl) 4).trans rfl⟩ (fun hHeld=>?_)
   clear hK K
   refine norm_ (a':=?_) ?_ ?_
   rotate_left
   ·show Act.put _ (some 43) _=_
    simp only [Act.put,List.setIfInBounds_toArray,List.set_cons_zero,List.set_cons_succ,i64_w]
    rfl
   refine one_ (i:=5) (N:=some 46) (TF [8,2,1,2]) rfl rfl (by kernel_rfl) (by decide) (fun K hK=>?_)
   refine Kd.R_append_rows_step Kd.string (w0:=w) w.heap.size (by rfl) (.tmp 43) (.tmp 45) 31 9 (.string ⟨#[]⟩) 16 rfl Tryd.underlying31 info9 rfl (by decide) (by omega) va [] l0 _ _ _ (fun _=>True) (fun _=>False) rfl rfl G1.out ?aR (fun _ _ h=>h) (fun _ h=>h.elim) (fun _ _=>trivial) HD.out.bel HD.out.bel.size ?aL ?_
   (case aR=>exact Kd.C_below HR0.out HD.out.bel)
   (case aL=>have:=LM.out;simp;omega)
   intro vb W4 ho hb hg hat
   have n0_:=Aside0.mk (HD.out.grown hg hb (HD.out.ne G1.out (Bx.types5 (by decide) (by decide) (by decide) (by decide) (by decide))))
   have n1_:=Aside0.mk (ho)
   have n2_:=Aside0.mk (Kd.R_mono (Kd.R_after G2.out hg hat) (fun _ h=>h.1))
   (try clear HD)
   (try clear G1)
   (try clear G2)
   have HD:=n0_
   have G1:=n1_
   have G2:=n2_
   clear n0_ n1_ n2_
   clear ho hb hg hat
   refine hK.out _ _ ⟨(blk_cell (HD.out.at_ 0 _ _ rfl) 0).trans rfl,(blk_cell (HD.out.at_ 0 _ _ rfl) 1).trans rfl,(blk_cell (HD.out.at_ 4 _ _ rfl) 0).trans rfl,(blk_cell (HD.out.at_ 4 _ _ rfl) 1).trans rfl,(blk_cell (HD.out.at_ 4 _ _ rfl) 2).trans rfl,(blk_cell (HD.out.at_ 4 _ _ rfl) 3).trans rfl,(blk_cell (HD.out.at_ 4 _ _ rfl) 4).trans rfl⟩ (fun hHeld=>?_)
   clear hK K
   refine norm_ (a':=?_) ?_ ?_
   rotate_left
   ·show Act.put _ (some 46) _=_
    simp only [Act.put,List.setIfInBounds_toArray,List.set_cons_zero,List.set_cons_succ,i64_w]
    rfl
   exact norm_ (by simp only [putAll,Act.put,List.setIfInBounds_toArray,List.set_cons_zero,List.set_cons_succ]) (hCont (va,vb,v2) _ ⟨HD.out,(show Kd.string.R 9 _ w.heap.size (fun _=>True) vb l0 from G1.out),G2.out⟩)
 rintro ⟨va,vb,v2⟩ W5 ⟨d5,g1,g2⟩
 have n0_:=Aside0.mk (d5)
 have n1_:=Aside0.mk (g1)
 have n2_:=Aside0.mk (g2)
 (try clear HD)
 (try clear G1)
 (try clear G2)
 have HD:=n0_
 have G1:=n1_
 have G2:=n2_
 clear n0_ n1_ n2_
 clear d5 g1 g2
 have hHeld:W5.cell? ⟨w.heap.size,0,none⟩=some (.int .i64 fl)∧W5.cell? ⟨w.heap.size,1,none⟩=some (.slice A0 l0.length c0)∧W5.cell? ⟨w.heap.size+1+1+1+1,0,none⟩=some (.int .i64 0)∧W5.cell? ⟨w.heap.size+1+1+1+1,1,none⟩=some (.int .i64 (l0.length:Int))∧W5.cell? ⟨w.heap.size+1+1+1+1,2,none⟩=some (.int .i64 fl)∧W5.cell? ⟨w.heap.size+1+1+1+1,3,none⟩=some (.slice none 0 0)∧W5.cell? ⟨w.heap.size+1+1+1+1,4,none⟩=some (.slice none 0 0):=⟨(blk_cell (HD.out.at_ 0 _ _ rfl) 0).trans rfl,(blk_cell (HD.out.at_ 0 _ _ rfl) 1).trans rfl,(blk_cell (HD.out.at_ 4 _ _ rfl) 0).trans rfl,(blk_cell (HD.out.at_ 4 _ _ rfl) 1).trans rfl,(blk_cell (HD.out.at_ 4 _ _ rfl) 2).trans rfl,(blk_cell (HD.out.at_ 4 _ _ rfl) 3).trans rfl,(blk_cell (HD.out.at_ 4 _ _ rfl) 4).trans rfl⟩
 obtain ⟨Ax,cx,ex⟩:=Kd.R_slice G2.out
 subst ex
 refine norm_ (a':=?_) ?_ ?_
 rotate_left
 ·simp only [putAll,Act.put,List.setIfInBounds_toArray,List.set_cons_zero,List.set_cons_succ]
  rfl
 refine one_ (i:=8) (N:=some 49) (TF [9,1,1,2]) rfl rfl (by kernel_rfl) (by decide) (fun K hK=>?_)
 refine Kd.R_append_rows_step Kd.string (w0:=w) w.heap.size (by rfl) (.tmp 46) (.tmp 48) 31 9 (.string ⟨#[]⟩) 16 rfl Tryd.underlying31 info9 rfl (by decide) (by omega) vb l0 [s1] _ _ _ (fun _=>True) (fun _=>False) rfl rfl G1.out ?aR (fun _ _ h=>h) (fun _ h=>h.elim) (fun _ _=>trivial) HD.out.bel HD.out.bel.size ?aL ?_
 (case aR=>exact (Kd.R_reads' G2.out).2.2)
 (case aL=>have:=LM.out;simp;omega)
 intro v3 W6 ho hb hg hat
 obtain ⟨y,hy⟩: ∃y:List ByteArray,y=l0++[s1]:=⟨_,rfl⟩
 rw [← hy] at ho
 have HY:=Aside0.mk hy
 clear hy
 have n0_:=Aside0.mk (HD.out.grown hg hb (HD.out.ne G1.out (Bx.types5 (by decide) (by decide) (by decide) (by decide) (by decide))))
 have n1_:=Aside0.mk (ho)
 (try clear HD)
 (try clear G3)
 have HD:=n0_
 have G3:=n1_
 clear n0_ n1_
 clear ho hb hg hat G1 G2
 obtain ⟨A3,c3,e3⟩:=Kd.R_slice G3.out
 subst e3
 have z20:W6.cell? ⟨w.heap.size+1+1,0,none⟩=some (.int .i64 0):=(blk_cell (HD.out.at_ 2 _ _ rfl) 0).trans rfl
 have y20:W6.frozen? ⟨w.heap.size+1+1,0,none⟩=false:=blk_frozen (HD.out.at_ 2 _ _ rfl) 0
 have z21:W6.cell? ⟨w.heap.size+1+1,1,none⟩=some (.slice none 0 0):=(blk_cell (HD.out.at_ 2 _ _ rfl) 1).trans rfl
 have y21:W6.frozen? ⟨w.heap.size+1+1,1,none⟩=false:=blk_frozen (HD.out.at_ 2 _ _ rfl) 1
 have z30:W6.cell? ⟨w.heap.size+1+1+1,0,none⟩=some (.int .i64 0):=(blk_cell (HD.out.at_ 3 _ _ rfl) 0).trans rfl
 have y30:W6.frozen? ⟨w.heap.size+1+1+1,0,none⟩=false:=blk_frozen (HD.out.at_ 3 _ _ rfl) 0
 have z31:W6.cell? ⟨w.heap.size+1+1+1,1,none⟩=some (.int .i64 0):=(blk_cell (HD.out.at_ 3 _ _ rfl) 1).trans rfl
 have y31:W6.frozen? ⟨w.heap.size+1+1+1,1,none⟩=false:=blk_frozen (HD.out.at_ 3 _ _ rfl) 1
 have z32:W6.cell? ⟨w.heap.size+1+1+1,2,none⟩=some (.int .i64 0):=(blk_cell (HD.out.at_ 3 _ _ rfl) 2).trans rfl
 have y32:W6.frozen? ⟨w.heap.size+1+1+1,2,none⟩=false:=blk_frozen (HD.out.at_ 3 _ _ rfl) 2
 have z33:W6.cell? ⟨w.heap.size+1+1+1,3,none⟩=some (.slice none 0 0):=(blk_cell (HD.out.at_ 3 _ _ rfl) 3).trans rfl
 have y33:W6.frozen? ⟨w.heap.size+1+1+1,3,none⟩=false:=blk_frozen (HD.out.at_ 3 _ _ rfl) 3
 have z34:W6.cell? ⟨w.heap.size+1+1+1,4,none⟩=some (.slice none 0 0):=(blk_cell (HD.out.at_ 3 _ _ rfl) 4).trans rfl
 have y34:W6.frozen? ⟨w.heap.size+1+1+1,4,none⟩=false:=blk_frozen (HD.out.at_ 3 _ _ rfl) 4
 refine hK.out _ _ ⟨(blk_cell (HD.out.at_ 0 _ _ rfl) 0).trans rfl,(blk_cell (HD.out.at_ 0 _ _ rfl) 1).trans rfl,(blk_cell (HD.out.at_ 4 _ _ rfl) 0).trans rfl,(blk_cell (HD.out.at_ 4 _ _ rfl) 1).trans rfl,(blk_cell (HD.out.at_ 4 _ _ rfl) 2).trans rfl,(blk_cell (HD.out.at_ 4 _ _ rfl) 3).trans rfl,(blk_cell (HD.out.at_ 4 _ _ rfl) 4).trans rfl⟩ (fun hHeld=>?_)
 clear hK K
 refine norm_ (a':=?_) ?_ ?_
 rotate_left
 ·show Act.put _ (some 49) _=_
  simp only [Act.put,List.setIfInBounds_toArray,List.set_cons_zero,List.set_cons_succ,i64_w]
  rfl
 refine pure_ (i:=9) (N:=some 50) (v:=?_) (a':=?_) (TF [11,2]) rfl rfl (by kernel_rfl) (fun _ _ _ h=>h) (Or.inl ⟨by rfl,?_⟩) ?_ ?_
 rotate_left
 ·intro w'
  go_simp
  with_reducible rfl
 rotate_left
 ·simp only [Act.put,List.setIfInBounds_toArray,List.set_cons_zero,List.set_cons_succ,i64_w]
  rfl
 refine one_ (i:=11) (N:=none) (TF [12,1]) rfl rfl (by kernel_rfl) (by decide) (fun K hK=>?_)
 refine skip_ (w1:=?_) (by rfl) rfl ?_ ?_
 rotate_left
 ·go_simp
  rfl
 refine hK.out _ _ ⟨(cell_far (p:=⟨w.heap.size+1+1,_,none⟩) (show w.heap.size≠w.heap.size+1+1 by omega) _).trans ((cell_far (p:=⟨w.heap.size+1+1,_,none⟩) (show w.heap.size≠w.heap.size+1+1 by omega) _).trans (hHeld.1)),(cell_far (p:=⟨w.heap.size+1+1,_,none⟩) (show w.heap.size≠w.heap.size+1+1 by omega) _).trans ((cell_far (p:=⟨w.heap.size+1+1,_,none⟩) (show w.heap.size≠w.heap.size+1+1 by omega) _).trans (hHeld.2.1)),(cell_far (p:=⟨w.heap.size+1+1,_,none⟩) (show w.heap.size+1+1+1+1≠w.heap.size+1+1 by omega) _).trans ((cell_far (p:=⟨w.heap.size+1+1,_,none⟩) (show w.heap.size+1+1+1+1≠w.heap.size+1+1 by omega) _).trans (hHeld.2.2.1)),(cell_far (p:=⟨w.heap.size+1+1,_,none⟩) (show w.heap.size+1+1+1+1≠w.heap.size+1+1 by omega) _).trans ((cell_far (p:=⟨w.heap.size+1+1,_,none⟩) (show w.heap.size+1+1+1+1≠w.heap.size+1+1 by omega) _).trans (hHeld.2.2.2.1)),(cell_far (p:=⟨w.heap.size+1+1,_,none⟩) (show w.heap.size+1+1+1+1≠w.heap.size+1+1 by omega) _).trans ((cell_far (p:=⟨w.heap.size+1+1,_,none⟩) (show w.heap.size+1+1+1+1≠w.heap.size+1+1 by omega) _).trans (hHeld.2.2.2.2.1)),(cell_far (p:=⟨w.heap.size+1+1,_,none⟩) (show w.heap.size+1+1+1+1≠w.heap.size+1+1 by omega) _).trans ((cell_far (p:=⟨w.heap.size+1+1,_,none⟩) (show w.heap.size+1+1+1+1≠w.heap.size+1+1 by omega) _).trans (hHeld.2.2.2.2.2.1)),(cell_far (p:=⟨w.heap.size+1+1,_,none⟩) (show w.heap.size+1+1+1+1≠w.heap.size+1+1 by omega) _).trans ((cell_far (p:=⟨w.heap.size+1+1,_,none⟩) (show w.heap.size+1+1+1+1≠w.heap.size+1+1 by omega) _).trans (hHeld.2.2.2.2.2.2))⟩ (fun hHeld=>?_)
 clear hK K
 refine last_ (i:=12) (N:=none) (TF [13]) rfl rfl (by kernel_rfl) (by decide) (fun K hK=>?_)
 refine skip_ (w1:=?_) (by rfl) rfl ?_ ?_
 rotate_left
 ·go_simp
  rfl
 refine hK.out _ _ ?_
 clear hK K
 refine done_ (by kernel_rfl) ?_
 go_wp2
 have P:=put_res (HD.out.at_ 2 _ _ rfl) (HD.out.at_ 3 _ _ rfl) (by omega) (.int .i64 fl) (.slice A3 y.length c3) (.int .i64 0) (.int .i64 (l0.length:Int)) (.int .i64 fl) (.slice none 0 0) (.slice none 0 0)
 refine bodyPost_ret (results_cc rfl _ _ (w.heap.size+1+1) (w.heap.size+1+1+1) 33 39 #[.int .i64 fl, .slice A3 y.length c3] #[.int .i64 0, .int .i64 (l0.length:Int), .int .i64 fl, .slice none 0 0, .slice none 0 0] (0,0) (0,0) _ _ rfl P.1 Tryd.underlying33 rfl (by kernel_rfl) rfl P.2.1 Tryd.underlying39 rfl (by kernel_rfl)) rfl ?_
 refine ⟨_,_,_,rfl, .inr (by rw [← HY.out];exact R_only G3.out (HD.out.at_ 2 _ _ rfl) (HD.out.at_ 3 _ _ rfl) (by decide) (by decide) P.2.2),Kd.R_nil _ _ _ _ _,Kd.R_nil _ _ _ _ _,?_⟩
 iterate 7 refine below_set ?_ (by omega)
 exact HD.out.bel
def barquelaw22_do.f (k:Nat) (fl:Int) (tr:List ByteArray) (kind gen:Int) (files:List S66):Option (Int × List ByteArray × Int × Int × Int × List S66 × List ByteArray):=
 if kind=1 then ((barqueref10_Of.f k files).bind fun s=>if s.2=0 then (if 32≤wrap64 ((tr.length:Int) - fl) then some (fl,tr,7,0,0,[],[]) else if tr.length < 8796093022207 then some (fl,tr++[s.1],0,(tr.length:Int),fl,[],[]) else none) else some (fl,tr,s.2,0,0,[],[]))
 else if kind=2 then ((barquelaw22_has.f k fl tr (wrap64 ((tr.length:Int) - 1))).bind fun a=>some (fl,tr,a.1,a.2.1,a.2.2.1,a.2.2.2.1,a.2.2.2.2))
 else if kind=3 then (if gen < 0 then some (fl,tr,2,0,0,[],[]) else ((barquelaw22_has.f k fl tr gen).bind fun a=>some (fl,tr,a.1,a.2.1,a.2.2.1,a.2.2.2.1,a.2.2.2.2)))
 else if kind=4 then some (fl,tr,0,(tr.length:Int),fl,[],[])
 else if kind=6 then some (fl,tr,0,(tr.length:Int),fl,[],[])
 else if kind=5 then (if gen < 0 then some (fl,tr,2,0,0,[],[]) else if gen≤fl then some (fl,tr,0,(tr.length:Int),fl,[],[]) else if (tr.length:Int)≤gen then some (fl,tr,2,0,0,[],[]) else some (gen,tr,0,(tr.length:Int),gen,[],[]))
 else some (fl,tr,1,0,0,[],[])
theorem barquelaw22_do.calls (k:Nat) (fl:Int) (A0:Option Addr) (c0:Nat) (l0:List ByteArray) (kind gen:Int) (A1:Option Addr) (c1:Nat) (l1:List S66) (w:World) (hr0:Kd.C Kd.string w A0 l0.length l0) (hc0:l0.length≤c0) (hr1:Kd.C k66 w A1 l1.length l1) (hc1:l1.length≤c1) (r:Int × List ByteArray × Int × Int × Int × List S66 × List ByteArray) (h:barquelaw22_do.f k fl l0 kind gen l1=some r):
  Calls Tryd.prog 16 #[.agg #[.int .i64 fl, .slice A0 l0.length c0], .agg #[.int .i64 kind, .int .i64 gen, .slice A1 l1.length c1]] w (DoPost w A0 c0 l0 r):=by
 unfold barquelaw22_do.f at h
 by_cases h1:kind=1
 ·rw [if_pos h1] at h
  obtain ⟨⟨s1,e1⟩,hs,h⟩:=Option.bind_eq_some_iff.mp h
  replace h:(if e1=0 then (if 32≤wrap64 ((l0.length:Int) - fl) then some (fl,l0,7,0,0,[],[]) else if l0.length < 8796093022207 then some (fl,l0++[s1],0,(l0.length:Int),fl,[],[]) else none) else some (fl,l0,e1,0,0,[],[]))=some r:=h
  by_cases he:e1=0
  ·rw [if_pos he] at h
   by_cases hq:32≤wrap64 ((l0.length:Int) - fl)
   ·rw [if_pos hq] at h
    obtain rfl:=Option.some.inj h
    exact barquelaw22_do.one_full k fl A0 c0 l0 kind gen A1 c1 l1 w hr0 hc0 hr1 hc1 s1 e1 hs (bt_ _ _ h1) (bt_ _ _ he) (nf_ _ _ he) (decide_eq_true hq)
   ·rw [if_neg hq] at h
    by_cases hl:l0.length < 8796093022207
    ·rw [if_pos hl] at h
     obtain rfl:=Option.some.inj h
     exact barquelaw22_do.one_ok k fl A0 c0 l0 kind gen A1 c1 l1 w hr0 hc0 hr1 hc1 s1 e1 hs (bt_ _ _ h1) (bt_ _ _ he) (nf_ _ _ he) (decide_eq_false hq) hl
    ·rw [if_neg hl] at h
     exact absurd h (by simp)
  ·rw [if_neg he] at h
   obtain rfl:=Option.some.inj h
   exact barquelaw22_do.one_err k fl A0 c0 l0 kind gen A1 c1 l1 w hr0 hc0 hr1 hc1 s1 e1 hs (bt_ _ _ h1) (bf_ _ _ he) (nt_ _ _ he)
 rw [if_neg h1] at h
 by_cases h2:kind=2
 ·rw [if_pos h2] at h
  obtain ⟨⟨a1,a2,a3,a4,a5⟩,hs,h⟩:=Option.bind_eq_some_iff.mp h
  obtain rfl:=Option.some.inj h
  exact barquelaw22_do.two k fl A0 c0 l0 kind gen A1 c1 l1 w hr0 hc0 hr1 hc1 (bf_ _ _ h1) (bt_ _ _ h2) a1 a2 a3 a4 a5 hs
 rw [if_neg h2] at h
 by_cases h3:kind=3
 ·rw [if_pos h3] at h
  by_cases hg:gen < 0
  ·rw [if_pos hg] at h
   obtain rfl:=Option.some.inj h
   exact barquelaw22_do.three_neg k fl A0 c0 l0 kind gen A1 c1 l1 w hr0 hc0 hr1 hc1 (bf_ _ _ h1) (bf_ _ _ h2) (bt_ _ _ h3) (decide_eq_true hg)
  ·rw [if_neg hg] at h
   obtain ⟨⟨a1,a2,a3,a4,a5⟩,hs,h⟩:=Option.bind_eq_some_iff.mp h
   obtain rfl:=Option.some.inj h
   exact barquelaw22_do.three k fl A0 c0 l0 kind gen A1 c1 l1 w hr0 hc0 hr1 hc1 (bf_ _ _ h1) (bf_ _ _ h2) (bt_ _ _ h3) (decide_eq_false hg) a1 a2 a3 a4 a5 hs
 rw [if_neg h3] at h
 by_cases h4:kind=4
 ·rw [if_pos h4] at h
  obtain rfl:=Option.some.inj h
  exact barquelaw22_do.four k fl A0 c0 l0 kind gen A1 c1 l1 w hr0 hc0 hr1 hc1 (bf_ _ _ h1) (bf_ _ _ h2) (bf_ _ _ h3) (bt_ _ _ h4)
 rw [if_neg h4] at h
 by_cases h6:kind=6
 ·rw [if_pos h6] at h
  obtain rfl:=Option.some.inj h
  exact barquelaw22_do.six k fl A0 c0 l0 kind gen A1 c1 l1 w hr0 hc0 hr1 hc1 (bf_ _ _ h1) (bf_ _ _ h2) (bf_ _ _ h3) (bf_ _ _ h4) (bt_ _ _ h6)
 rw [if_neg h6] at h
 by_cases h5:kind=5
 ·rw [if_pos h5] at h
  by_cases hg:gen < 0
  ·rw [if_pos hg] at h
   obtain rfl:=Option.some.inj h
   exact barquelaw22_do.five_neg k fl A0 c0 l0 kind gen A1 c1 l1 w hr0 hc0 hr1 hc1 (bf_ _ _ h1) (bf_ _ _ h2) (bf_ _ _ h3) (bf_ _ _ h4) (bf_ _ _ h6) (bt_ _ _ h5) (decide_eq_true hg)
  ·rw [if_neg hg] at h
   by_cases hf:gen≤fl
   ·rw [if_pos hf] at h
    obtain rfl:=Option.some.inj h
    exact barquelaw22_do.five_low k fl A0 c0 l0 kind gen A1 c1 l1 w hr0 hc0 hr1 hc1 (bf_ _ _ h1) (bf_ _ _ h2) (bf_ _ _ h3) (bf_ _ _ h4) (bf_ _ _ h6) (bt_ _ _ h5) (decide_eq_false hg) (decide_eq_false (by omega))
   ·rw [if_neg hf] at h
    by_cases hn:(l0.length:Int)≤gen
    ·rw [if_pos hn] at h
     obtain rfl:=Option.some.inj h
     exact barquelaw22_do.five_high k fl A0 c0 l0 kind gen A1 c1 l1 w hr0 hc0 hr1 hc1 (bf_ _ _ h1) (bf_ _ _ h2) (bf_ _ _ h3) (bf_ _ _ h4) (bf_ _ _ h6) (bt_ _ _ h5) (decide_eq_false hg) (decide_eq_true (by omega)) (decide_eq_true hn)
    ·rw [if_neg hn] at h
     obtain rfl:=Option.some.inj h
     exact barquelaw22_do.five_ok k fl A0 c0 l0 kind gen A1 c1 l1 w hr0 hc0 hr1 hc1 (bf_ _ _ h1) (bf_ _ _ h2) (bf_ _ _ h3) (bf_ _ _ h4) (bf_ _ _ h6) (bt_ _ _ h5) (decide_eq_false hg) (decide_eq_true (by omega)) (decide_eq_false hn)
 ·rw [if_neg h5] at h
  obtain rfl:=Option.some.inj h
  exact barquelaw22_do.dflt k fl A0 c0 l0 kind gen A1 c1 l1 w hr0 hc0 hr1 hc1 (bf_ _ _ h1) (bf_ _ _ h2) (bf_ _ _ h3) (bf_ _ _ h4) (bf_ _ _ h6) (bf_ _ _ h5)
end Go.Proofs.YthejnffhfmdpnaaDoor.Q

end

section
namespace Go.Proofs.YthejnffhfmdpnaaDoor.Q
open Go.RowKit
theorem cell_twice (w:World) (b o:Nat) (u v:Value) (h:(w.cell? ⟨b,o,none⟩).isSome=true):((w.setCell ⟨b,o,none⟩ u).setCell ⟨b,o,none⟩ v).cell? ⟨b,o,none⟩=some v:=by
 apply World.cell?_setCell_same'
 rw [World.cell?_setCell_same' _ _ _ h]
 rfl
end Go.Proofs.YthejnffhfmdpnaaDoor.Q

end

section
namespace Go.Proofs.YthejnffhfmdpnaaDoor.Q
open Go.RowKit Go.Proofs.YthejnffhfmdpnaaDoorW.PrintWords Go.Proofs.YthejnffhfmdpnaaDoorW.PrintLast Go.Proofs.YthejnffhfmdpnaaDoorW.PrintMore
attribute [local go_sem] min2_int min_two
set_option linter.unusedVariables false
set_option linter.unusedSimpArgs false
attribute [local go_sem] cell_twice
mutual
def barquelaw22_few.l0:Nat→List (S66)→Int→Int→Int→List (S66)→Option (Int × Int × (List (S66)))
 |0,_,_,_,_,_=>none
 |k+1,x3,x4,x108000,x108001,x108002=>if x4 < (x108002.length:Int) then (barquelaw22_few.j1 k x3 x4 (decide (x4 < 8)) x108000 x108001 x108002) else (barquelaw22_few.j1 k x3 x4 false x108000 x108001 x108002)
def barquelaw22_few.j1:Nat→List (S66)→Int→Bool→Int→Int→List (S66)→Option (Int × Int × (List (S66)))
 |0,_,_,_,_,_,_=>none
 |k+1,x3,x4,x14,x108000,x108001,x108002=>if x14=true then (if 0≤x4 then (if x4 < (x108002.length:Int) then (if (((rd_T66 x108002 x4).f2).size:Int) > 200 then (if 0≤200 then (if 200≤(((rd_T66 x108002 x4).f2).size:Int) then (if x3.length < 3518437208883 then (barquelaw22_few.l0 k (x3++[(⟨(rd_T66 x108002 x4).f0,(rd_T66 x108002 x4).f1,((rd_T66 x108002 x4).f2).extract 0 200⟩:S66)]) (wrap64 (x4+1)) x108000 x108001 x108002) else (none)) else (none)) else (none)) else (if x3.length < 3518437208883 then (barquelaw22_few.l0 k (x3++[(⟨(rd_T66 x108002 x4).f0,(rd_T66 x108002 x4).f1,(rd_T66 x108002 x4).f2⟩:S66)]) (wrap64 (x4+1)) x108000 x108001 x108002) else (none))) else (none)) else (none)) else (some (x108000,x108001,x3))
end
def barquelaw22_few.f (k:Nat) (a0_0:Int) (a0_1:Int) (l0_2:List (S66)):Option (Int × Int × (List (S66))):=barquelaw22_few.l0 k ([]:List (S66)) 0 a0_0 a0_1 l0_2
set_option maxHeartbeats 8000000 in
set_option maxRecDepth 100000 in
theorem barquelaw22_few.calls (k:Nat) (a0_0:Int) (a0_1:Int) (A0_2:Option Addr) (c0_2:Nat) (l0_2:List (S66)) (r1:Int) (r2:Int) (r3:List (S66)) (w:World) (hr0_2:Kd.C k66 w A0_2 l0_2.length l0_2) (hc0_2:l0_2.length≤c0_2) (h:barquelaw22_few.f k a0_0 a0_1 l0_2=some (r1,r2,r3)):
  Calls Tryd.prog 17 #[.agg #[.int .i64 a0_0, .int .i64 a0_1, .slice A0_2 l0_2.length c0_2]] w fun e w'=> ∃v2_:Value,e= .returned (.agg #[.int .i64 r1, .int .i64 r2,v2_])∧Kd.R k66 66 w' w.heap.size (fun _=>True) v2_ r3∧Below w.heap.size w w':=by
 have hu43:=Tryd.underlying43
 have hu66:=Tryd.underlying66
 have HR0_2:=Aside0.mk hr0_2
 have HC0_2:=Aside0.mk hc0_2
 clear hr0_2 hc0_2
 have HB:=Aside0.mk (Below.refl w.heap.size w)
 have H:(barquelaw22_few.l0 k ([]:List (S66)) 0 a0_0 a0_1 l0_2)=some (r1,r2,r3):=h
 clear h
 have H':=Aside0.mk H
 clear H
 go_enter Tryd.func17,Tryd.ntmps17
 go_wp2_with (first|((with_reducible refine gate_dst (N:=1) rfl ?_);refine box_event ?hg (N:=1) ?hd (cs:=#[.int .i64 a0_0, .int .i64 a0_1, .slice A0_2 l0_2.length c0_2]) (t:=43) ?hr ?_;(case hd=>rfl);(case hg=>rfl);(case hr=>first|(go_simp;done)|(go_simp;rfl));intro gb107 hg w2 hbox hb;have n0_:=Aside0.mk (below_step (by repeat (first|(with_reducible first|exact HB.out|apply below_alloc|apply pw_below_drewN|apply below_drew1)|exact HB.out)) hb);have n1_:=Aside0.mk (hbox);have n2_:=Aside0.mk ((by rw [hg];exact (below_size (by repeat (first|(with_reducible first|exact HB.out|apply below_alloc|apply pw_below_drewN|apply below_drew1)|exact HB.out))):w.heap.size≤gb107));have n3_:=Aside0.mk ((by rw [hg];exact (below_size (by repeat (first|(with_reducible first|exact HB.out|apply below_alloc|apply pw_below_drewN|apply below_drew1)|exact HB.out))):w.heap.size≤gb107));clear HB;have HB:=n0_;have BK107:=n1_;have GW107:=n2_;have GE107:=n3_;clear n0_ n1_ n2_ n3_;clear hb hbox hg)|((with_reducible refine gate_dst (N:=2) rfl ?_);refine box_event ?hg (N:=2) ?hd (cs:=#[.int .i64 0, .int .i64 0, .slice none 0 0]) (t:=43) ?hr ?_;(case hd=>rfl);(case hg=>rfl);(case hr=>first|(go_simp;done)|(go_simp;rfl));intro gb108 hg w3 hbox hb;have n0_:=Aside0.mk (blk_below (g:=gb107) (o:= .cells #[.int .i64 a0_0, .int .i64 a0_1, .slice A0_2 l0_2.length c0_2] 43 (0,0)) (by (with_reducible repeat (first|refine blk_drewN ?_ _|refine blk_drew ?_|refine blk_alloc ?_ _));exact BK107.out) hb);have n1_:=Aside0.mk (below_step (by repeat (first|(with_reducible first|exact HB.out|apply below_alloc|apply pw_below_drewN|apply below_drew1|refine below_set ?_ GE107.out)|exact HB.out)) hb);have n2_:=Aside0.mk (hbox);have n3_:=Aside0.mk ((by rw [hg];exact (below_size (by repeat (first|(with_reducible first|exact HB.out|apply below_alloc|apply pw_below_drewN|apply below_drew1|refine below_set ?_ GE107.out)|exact HB.out))):w.heap.size≤gb108));have n4_:=Aside0.mk ((by rw [hg];exact (below_size (by repeat (first|(with_reducible first|exact HB.out|apply below_alloc|apply pw_below_drewN|apply below_drew1|refine below_set ?_ GE107.out)|exact HB.out))):w.heap.size≤gb108));have n5_:=Aside0.mk ((by rw [hg];exact Nat.ne_of_lt (blk_lt (g:=gb107) (o:= .cells #[.int .i64 a0_0, .int .i64 a0_1, .slice A0_2 l0_2.length c0_2] 43 (0,0)) (by (with_reducible repeat (first|refine blk_drewN ?_ _|refine blk_drew ?_|refine blk_alloc ?_ _));exact BK107.out)):gb107≠gb108));have n6_:=Aside0.mk ((by rw [hg];exact Nat.ne_of_gt (blk_lt (g:=gb107) (o:= .cells #[.int .i64 a0_0, .int .i64 a0_1, .slice A0_2 l0_2.length c0_2] 43 (0,0)) (by (with_reducible repeat (first|refine blk_drewN ?_ _|refine blk_drew ?_|refine blk_alloc ?_ _));exact BK107.out)):gb108≠gb107));clear BK107;clear HB;have BK107:=n0_;have HB:=n1_;have BK108:=n2_;have GW108:=n3_;have GE108:=n4_;have NB107_108:=n5_;have NB108_107:=n6_;clear n0_ n1_ n2_ n3_ n4_ n5_ n6_;clear hb hbox hg))
 go_loopg [3,4] k (fun kq v3 v4 w'=> ∃(x3_1:List (S66)) (x4_1:Int),v4= .int .i64 x4_1∧Aside0 (barquelaw22_few.l0 kq x3_1 x4_1 a0_0 a0_1 l0_2=some (r1,r2,r3))∧Aside0 (kq≤k)∧Aside0 (Kd.R k66 66 w' w.heap.size (fun _=>True) v3 x3_1)∧Aside0 (w'.heap[gb107]? =some (.cells #[.int .i64 a0_0, .int .i64 a0_1,(.slice A0_2 l0_2.length c0_2)] 43 (0,0)))∧Aside0 (w'.heap[gb108]? =some (.cells #[.int .i64 0, .int .i64 0,(.slice none 0 0)] 43 (0,0)))∧Aside0 (Below w.heap.size w w'))
 case atStart=>exact ⟨(([]:List (S66))),(0),(by first|rfl|(simp;done)|(simp [*];done)),H',⟨Nat.le_refl _⟩,⟨by first|exact Kd.R_nil _ _ _ _ _|exact Kd.N_nil _ _ _ _ _|exact Kd.V_nil _ _ _ _ _|exact Kd.Q_nil _ _ _ _ _|exact Kd.S_nil _ _ _ _ _⟩,⟨by (with_reducible repeat (first|refine blk_drewN ?_ _|refine blk_drew ?_|refine blk_alloc ?_ _));exact BK107.out⟩,⟨by (with_reducible repeat (first|refine blk_drewN ?_ _|refine blk_drew ?_|refine blk_alloc ?_ _));exact BK108.out⟩,⟨by repeat (first|(with_reducible first|exact HB.out|apply below_alloc|apply pw_below_drewN|apply below_drew1|refine below_set ?_ GE107.out|refine below_set ?_ GE108.out)|exact HB.out)⟩⟩
 case round=>
  clear H'
  obtain ⟨x3_1,x4_1,rfl,HA,HK1,HO_3,BK107,BK108,HB⟩:=hrel
  cases gk with
  |zero=>exact absurd HA.out (by simp [barquelaw22_few.l0])
  |succ k1=>
   have H:=HA.out
   clear HA
   simp only [barquelaw22_few.l0] at H
   have HC4:=Aside0.mk H
   clear H
   go_upto_region 3 with (fail)
   go_cut [14] (fun v14 wc=> ∃(kq:Nat) (x14_3:Bool),v14= .bool x14_3∧Aside0 (barquelaw22_few.j1 kq x3_1 x4_1 x14_3 a0_0 a0_1 l0_2=some (r1,r2,r3))∧Aside0 (kq≤k1)∧Aside0 (Kd.R k66 66 wc w.heap.size (fun _=>True) u3 x3_1)∧Aside0 (wc.heap[gb107]? =some (.cells #[.int .i64 a0_0, .int .i64 a0_1,(.slice A0_2 l0_2.length c0_2)] 43 (0,0)))∧Aside0 (wc.heap[gb108]? =some (.cells #[.int .i64 0, .int .i64 0,(.slice none 0 0)] 43 (0,0)))∧Aside0 (Below w.heap.size w wc))
   case first=>
    have H:=HC4.out
    clear HC4
    by_cases c5:x4_1 < (l0_2.length:Int)
    ·rw [if_pos c5] at H
     have c5b0:decide (x4_1 < (l0_2.length:Int))=true:=decide_eq_true c5
     clear c5
     (first|rw [c5b0]|(simp only [i64_w];rw [c5b0])|skip)
     have H':=Aside0.mk H
     clear H
     have hnb6:=NB107_108.out
     have hnc6:=NB108_107.out
     have hcz7_0:wr.cell? ⟨gb107,0,none⟩=some (.int .i64 a0_0):=(blk_cell BK107.out 0).trans rfl
     have hcz7_1:wr.cell? ⟨gb107,1,none⟩=some (.int .i64 a0_1):=(blk_cell BK107.out 1).trans rfl
     have hcz7_2:wr.cell? ⟨gb107,2,none⟩=some (.slice A0_2 l0_2.length c0_2):=(blk_cell BK107.out 2).trans rfl
     have hfz7_0:=blk_frozen BK107.out 0
     have hfz7_1:=blk_frozen BK107.out 1
     have hfz7_2:=blk_frozen BK107.out 2
     go_wp2
     go_meet
     case rel=>exact ⟨_,(decide (x4_1 < 8)),(by first|rfl|(simp;done)|(simp [*];done)),H',⟨by have:=HK1.out;first|omega|exact Nat.le_refl _⟩,⟨by (with_reducible repeat (first|apply Kd.R_alloc|apply Kd.R_drewN|apply Kd.R_drew));exact HO_3.out⟩,⟨by (with_reducible repeat (first|refine blk_drewN ?_ _|refine blk_drew ?_|refine blk_alloc ?_ _));exact BK107.out⟩,⟨by (with_reducible repeat (first|refine blk_drewN ?_ _|refine blk_drew ?_|refine blk_alloc ?_ _));exact BK108.out⟩,⟨by repeat (first|(with_reducible first|exact HB.out|apply below_alloc|apply pw_below_drewN|apply below_drew1|refine below_set ?_ GE107.out|refine below_set ?_ GE108.out)|exact HB.out)⟩⟩
    ·rw [if_neg c5] at H
     have c5b0:decide (x4_1 < (l0_2.length:Int))=false:=decide_eq_false c5
     clear c5
     (first|rw [c5b0]|(simp only [i64_w];rw [c5b0])|skip)
     have H':=Aside0.mk H
     clear H
     have hnb8:=NB107_108.out
     have hnc8:=NB108_107.out
     have hcz9_0:wr.cell? ⟨gb107,0,none⟩=some (.int .i64 a0_0):=(blk_cell BK107.out 0).trans rfl
     have hcz9_1:wr.cell? ⟨gb107,1,none⟩=some (.int .i64 a0_1):=(blk_cell BK107.out 1).trans rfl
     have hcz9_2:wr.cell? ⟨gb107,2,none⟩=some (.slice A0_2 l0_2.length c0_2):=(blk_cell BK107.out 2).trans rfl
     have hfz9_0:=blk_frozen BK107.out 0
     have hfz9_1:=blk_frozen BK107.out 1
     have hfz9_2:=blk_frozen BK107.out 2
     go_wp2
     go_meet
     case rel=>exact ⟨_,(false),(by first|rfl|(simp;done)|(simp [*];done)),H',⟨by have:=HK1.out;first|omega|exact Nat.le_refl _⟩,⟨by (with_reducible repeat (first|apply Kd.R_alloc|apply Kd.R_drewN|apply Kd.R_drew));exact HO_3.out⟩,⟨by (with_reducible repeat (first|refine blk_drewN ?_ _|refine blk_drew ?_|refine blk_alloc ?_ _));exact BK107.out⟩,⟨by (with_reducible repeat (first|refine blk_drewN ?_ _|refine blk_drew ?_|refine blk_alloc ?_ _));exact BK108.out⟩,⟨by repeat (first|(with_reducible first|exact HB.out|apply below_alloc|apply pw_below_drewN|apply below_drew1|refine below_set ?_ GE107.out|refine below_set ?_ GE108.out)|exact HB.out)⟩⟩
   case rest=>
    clear HC4
    obtain ⟨kq,x14_3,rfl,HA,HJ3,HO_3,BK107,BK108,HB⟩:=hcut
    cases kq with
    |zero=>exact absurd HA.out (by simp [barquelaw22_few.j1])
    |succ kj3=>
     have H:=HA.out
     clear HA
     simp only [barquelaw22_few.j1] at H
     by_cases c10:x14_3=true
     ·subst c10
      have H1:(if 0≤x4_1 then (if x4_1 < (l0_2.length:Int) then (if (((rd_T66 l0_2 x4_1).f2).size:Int) > 200 then (if 0≤200 then (if 200≤(((rd_T66 l0_2 x4_1).f2).size:Int) then (if x3_1.length < 3518437208883 then (barquelaw22_few.l0 kj3 (x3_1++[(⟨(rd_T66 l0_2 x4_1).f0,(rd_T66 l0_2 x4_1).f1,((rd_T66 l0_2 x4_1).f2).extract 0 200⟩:S66)]) (wrap64 (x4_1+1)) a0_0 a0_1 l0_2) else (none)) else (none)) else (none)) else (if x3_1.length < 3518437208883 then (barquelaw22_few.l0 kj3 (x3_1++[(⟨(rd_T66 l0_2 x4_1).f0,(rd_T66 l0_2 x4_1).f1,(rd_T66 l0_2 x4_1).f2⟩:S66)]) (wrap64 (x4_1+1)) a0_0 a0_1 l0_2) else (none))) else (none)) else (none))=some (r1,r2,r3):=by rw [if_pos rfl] at H;exact H
      clear H
      have H:=H1
      clear H1
      by_cases c11:0≤x4_1
      ·rw [if_pos c11] at H
       have c11b0:decide (0≤x4_1)=true:=decide_eq_true c11
       clear c11
       by_cases c12:x4_1 < (l0_2.length:Int)
       ·rw [if_pos c12] at H
        have c12b0:decide (x4_1 < (l0_2.length:Int))=true:=decide_eq_true c12
        clear c12
        by_cases c13:(((rd_T66 l0_2 x4_1).f2).size:Int) > 200
        ·rw [if_pos c13] at H
         have c13b0:decide (200 < (((rd_T66 l0_2 x4_1).f2).size:Int))=true:=decide_eq_true c13
         have c13b1:decide (200 < ((rd_T66 l0_2 x4_1).f2).size)=true:=decide_eq_true (by omega)
         clear c13
         by_cases c14:0≤200
         ·rw [if_pos c14] at H
          have c14b0:=eq_true c14
          have c14b1:decide (0≤200)=true:=decide_eq_true c14
          clear c14
          by_cases c15:200≤(((rd_T66 l0_2 x4_1).f2).size:Int)
          ·rw [if_pos c15] at H
           have c15b0:=eq_true c15
           have c15b1:decide (200≤(((rd_T66 l0_2 x4_1).f2).size:Int))=true:=decide_eq_true c15
           clear c15
           by_cases c16:x3_1.length < 3518437208883
           ·rw [if_pos c16] at H
            have LMc16:=Aside0.mk c16
            clear c16
            obtain ⟨y111,hy111⟩: ∃y_:List (S66),y_=(x3_1++[(⟨(rd_T66 l0_2 x4_1).f0,(rd_T66 l0_2 x4_1).f1,((rd_T66 l0_2 x4_1).f2).extract 0 200⟩:S66)]):=⟨_,rfl⟩
            replace H:(barquelaw22_few.l0 kj3 y111 (wrap64 (x4_1+1)) a0_0 a0_1 l0_2)=some (r1,r2,r3):=by first|(rw [hy111];with_reducible exact H)|(have H2_:=(Option.bind_some _ _).symm.trans H;rw [hy111];with_reducible exact H2_)|(have H2_:=(Option.bind_some _ _).symm.trans H;with_reducible exact H2_)|with_reducible exact H|(rw [hy111];exact H)|exact H
            have Ny111:=Aside0.mk hy111
            clear hy111
            have H':=Aside0.mk H
            clear H
            have hnb17:=NB107_108.out
            have hnc17:=NB108_107.out
            have hcz18_0:wc.cell? ⟨gb107,0,none⟩=some (.int .i64 a0_0):=(blk_cell BK107.out 0).trans rfl
            have hcz18_1:wc.cell? ⟨gb107,1,none⟩=some (.int .i64 a0_1):=(blk_cell BK107.out 1).trans rfl
            have hcz18_2:wc.cell? ⟨gb107,2,none⟩=some (.slice A0_2 l0_2.length c0_2):=(blk_cell BK107.out 2).trans rfl
            have hfz18_0:=blk_frozen BK107.out 0
            have hfz18_1:=blk_frozen BK107.out 1
            have hfz18_2:=blk_frozen BK107.out 2
            have p109:0≤(x4_1:Int):=of_decide_eq_true (by assumption)
            have q109:x4_1 < (l0_2.length:Int):=of_decide_eq_true (by assumption)
            obtain ⟨ad109,e109,hx109_0,hx109_1,hx109_2⟩:=at_T66 HR0_2.out x4_1 p109 q109
            cases e109
            replace hx109_0:=(HB.out.cell (World.block_lt_of_cell? w _ hx109_0)).trans hx109_0
            replace hx109_1:=(HB.out.cell (World.block_lt_of_cell? w _ hx109_1)).trans hx109_1
            replace hx109_2:=(HB.out.cell (World.block_lt_of_cell? w _ hx109_2)).trans hx109_2
            replace p109:=eq_true p109
            replace q109:=eq_true q109
            go_wp2_with (first|((with_reducible refine gate_dst (N:=5) rfl ?_);refine box_event ?hg (N:=5) ?hd (cs:=#[.string (⟨#[]⟩:ByteArray), .int .i64 0, .string (⟨#[]⟩:ByteArray)]) (t:=66) ?hr ?_;(case hd=>rfl);(case hg=>rfl);(case hr=>first|(go_simp;done)|(go_simp;rfl));intro gb110 hg w19 hbox hb;have n0_:=Aside0.mk (Kd.R_below (Kd.R_elderB (by (with_reducible repeat (first|apply Kd.R_alloc|apply Kd.R_drewN|apply Kd.R_drew));exact HO_3.out) gb110 (Nat.le_of_eq hg.symm)) hb);have n1_:=Aside0.mk (blk_below (g:=gb107) (o:= .cells #[.int .i64 a0_0, .int .i64 a0_1, .slice (some ad109) l0_2.length c0_2] 43 (0,0)) (by (with_reducible repeat (first|refine blk_drewN ?_ _|refine blk_drew ?_|refine blk_alloc ?_ _));exact BK107.out) hb);have n2_:=Aside0.mk (blk_below (g:=gb108) (o:= .cells #[.int .i64 0, .int .i64 0, .slice none 0 0] 43 (0,0)) (by (with_reducible repeat (first|refine blk_drewN ?_ _|refine blk_drew ?_|refine blk_alloc ?_ _));exact BK108.out) hb);have n3_:=Aside0.mk (below_step (by repeat (first|(with_reducible first|exact HB.out|apply below_alloc|apply pw_below_drewN|apply below_drew1|refine below_set ?_ GE107.out|refine below_set ?_ GE108.out)|exact HB.out)) hb);have n4_:=Aside0.mk (hbox);have n5_:=Aside0.mk ((by rw [hg];exact (below_size (by repeat (first|(with_reducible first|exact HB.out|apply below_alloc|apply pw_below_drewN|apply below_drew1|refine below_set ?_ GE107.out|refine below_set ?_ GE108.out)|exact HB.out))):w.heap.size≤gb110));have n6_:=Aside0.mk ((by rw [hg];exact (below_size (by repeat (first|(with_reducible first|exact HB.out|apply below_alloc|apply pw_below_drewN|apply below_drew1|refine below_set ?_ GE107.out|refine below_set ?_ GE108.out)|exact HB.out))):w.heap.size≤gb110));have n7_:=Aside0.mk ((by rw [hg];exact Nat.ne_of_lt (blk_lt (g:=gb107) (o:= .cells #[.int .i64 a0_0, .int .i64 a0_1, .slice (some ad109) l0_2.length c0_2] 43 (0,0)) (by (with_reducible repeat (first|refine blk_drewN ?_ _|refine blk_drew ?_|refine blk_alloc ?_ _));exact BK107.out)):gb107≠gb110));have n8_:=Aside0.mk ((by rw [hg];exact Nat.ne_of_gt (blk_lt (g:=gb107) (o:= .cells #[.int .i64 a0_0, .int .i64 a0_1, .slice (some ad109) l0_2.length c0_2] 43 (0,0)) (by (with_reducible repeat (first|refine blk_drewN ?_ _|refine blk_drew ?_|refine blk_alloc ?_ _));exact BK107.out)):gb110≠gb107));have n9_:=Aside0.mk ((by rw [hg];exact Nat.ne_of_lt (blk_lt (g:=gb108) (o:= .cells #[.int .i64 0, .int .i64 0, .slice none 0 0] 43 (0,0)) (by (with_reducible repeat (first|refine blk_drewN ?_ _|refine blk_drew ?_|refine blk_alloc ?_ _));exact BK108.out)):gb108≠gb110));have n10_:=Aside0.mk ((by rw [hg];exact Nat.ne_of_gt (blk_lt (g:=gb108) (o:= .cells #[.int .i64 0, .int .i64 0, .slice none 0 0] 43 (0,0)) (by (with_reducible repeat (first|refine blk_drewN ?_ _|refine blk_drew ?_|refine blk_alloc ?_ _));exact BK108.out)):gb110≠gb108));clear HO_3;clear BK107;clear BK108;clear HB;have HO_3:=n0_;have BK107:=n1_;have BK108:=n2_;have HB:=n3_;have BK110:=n4_;have GW110:=n5_;have GE110:=n6_;have NB107_110:=n7_;have NB110_107:=n8_;have NB108_110:=n9_;have NB110_108:=n10_;clear n0_ n1_ n2_ n3_ n4_ n5_ n6_ n7_ n8_ n9_ n10_;clear hb hbox hg;have hnb20:=NB110_107.out;have hnc20:=NB107_110.out;have hnb21:=NB110_108.out;have hnc21:=NB108_110.out;have hcz22_0:w19.cell? ⟨gb110,0,none⟩=some (.string (⟨#[]⟩:ByteArray)):=(blk_cell BK110.out 0).trans rfl;have hcz22_1:w19.cell? ⟨gb110,1,none⟩=some (.int .i64 0):=(blk_cell BK110.out 1).trans rfl;have hcz22_2:w19.cell? ⟨gb110,2,none⟩=some (.string (⟨#[]⟩:ByteArray)):=(blk_cell BK110.out 2).trans rfl;have hfz22_0:=blk_frozen BK110.out 0;have hfz22_1:=blk_frozen BK110.out 1;have hfz22_2:=blk_frozen BK110.out 2)|((with_reducible refine gate_builtin (b:= .append) (xs:=#[.tmp 30, .tmp 32]) rfl ?_);at_builtin;refine Kd.R_append k66 (w0:=w) w.heap.size rfl (.tmp 30) (.tmp 32) 37 66 (.agg #[(.string ⟨#[]⟩),(.int .i64 0),(.string ⟨#[]⟩)]) 40 rfl Tryd.underlying37 info66 rfl (by decide) (by omega) u3 x3_1 (⟨(rd_T66 l0_2 x4_1).f0,(rd_T66 l0_2 x4_1).f1,((rd_T66 l0_2 x4_1).f2).extract 0 200⟩:S66) [.string ((rd_T66 l0_2 x4_1).f0), .int .i64 ((rd_T66 l0_2 x4_1).f1), .string (((rd_T66 l0_2 x4_1).f2).extract 0 200)] (fun k_=>k_≠gb110) (fun _=>False) rfl (by first|(go_simp;done)|(go_simp;rfl)) ?aP (fun _ hk=>hk.elim) ?aF ?aO ?aB ?aS ?aL ?_;(case aP=>exact k66_mkM _ _ _ (⟨(rd_T66 l0_2 x4_1).f0,(rd_T66 l0_2 x4_1).f1,((rd_T66 l0_2 x4_1).f2).extract 0 200⟩:S66));(case aB=>exact (by repeat (first|(with_reducible first|exact HB.out|apply below_alloc|apply pw_below_drewN|apply below_drew1|refine below_set ?_ GE107.out|refine below_set ?_ GE108.out|refine below_set ?_ GE110.out)|exact HB.out)));(case aF=>exact (fun k_ hk=>Kd.freshB (g:=gb110) (o:= .cells #[.string ((rd_T66 l0_2 x4_1).f0), .int .i64 ((rd_T66 l0_2 x4_1).f1), .string (((rd_T66 l0_2 x4_1).f2).extract 0 200)] 66 (0,0)) (by (with_reducible repeat (first|refine blk_drewN ?_ _|refine blk_drew ?_|refine blk_alloc ?_ _));refine blk_put (cs:=#[.string ((rd_T66 l0_2 x4_1).f0), .int .i64 ((rd_T66 l0_2 x4_1).f1), .string ((rd_T66 l0_2 x4_1).f2)]) ?_ 2 _ rfl;(with_reducible repeat (first|refine blk_drewN ?_ _|refine blk_drew ?_|refine blk_alloc ?_ _));refine blk_put (cs:=#[.string ((rd_T66 l0_2 x4_1).f0), .int .i64 ((rd_T66 l0_2 x4_1).f1), .string (⟨#[]⟩:ByteArray)]) ?_ 2 _ rfl;(with_reducible repeat (first|refine blk_drewN ?_ _|refine blk_drew ?_|refine blk_alloc ?_ _));refine blk_put (cs:=#[.string ((rd_T66 l0_2 x4_1).f0), .int .i64 0, .string (⟨#[]⟩:ByteArray)]) ?_ 1 _ rfl;(with_reducible repeat (first|refine blk_drewN ?_ _|refine blk_drew ?_|refine blk_alloc ?_ _));refine blk_put (cs:=#[.string (⟨#[]⟩:ByteArray), .int .i64 0, .string (⟨#[]⟩:ByteArray)]) ?_ 0 _ rfl;(with_reducible repeat (first|refine blk_drewN ?_ _|refine blk_drew ?_|refine blk_alloc ?_ _));exact BK110.out) k_ hk));(case aO=>exact (by (with_reducible repeat (first|apply Kd.R_alloc|apply Kd.R_drewN|apply Kd.R_drew));exact Kd.R_mono (Kd.R_far (p:=⟨gb110,2,none⟩) (Kd.R_far (p:=⟨gb110,2,none⟩) (Kd.R_far (p:=⟨gb110,1,none⟩) (Kd.R_far (p:=⟨gb110,0,none⟩) (Kd.R_mono HO_3.out (fun k_ hk=>(⟨hk,hk.2⟩:_∧k_≠gb110))) (fun _ hk=>hk.2) (.string ((rd_T66 l0_2 x4_1).f0))) (fun _ hk=>hk.2) (.int .i64 ((rd_T66 l0_2 x4_1).f1))) (fun _ hk=>hk.2) (.string ((rd_T66 l0_2 x4_1).f2))) (fun _ hk=>hk.2) (.string (((rd_T66 l0_2 x4_1).f2).extract 0 200))) (fun _ hk=>hk.1.2)));(case aS=>exact (below_size (by repeat (first|(with_reducible first|exact HB.out|apply below_alloc|apply pw_below_drewN|apply below_drew1|refine below_set ?_ GE107.out|refine below_set ?_ GE108.out|refine below_set ?_ GE110.out)|exact HB.out))));(case aL=>have:=LMc16.out;omega);intro v112 w23 ho hb hg hat;rw [← Ny111.out] at ho;have n0_:=Aside0.mk (blk_grown (g:=gb107) (o:= .cells #[.int .i64 a0_0, .int .i64 a0_1, .slice (some ad109) l0_2.length c0_2] 43 (0,0)) (by (with_reducible repeat (first|refine blk_drewN ?_ _|refine blk_drew ?_|refine blk_alloc ?_ _));refine blk_far ?_ NB107_110.out _;(with_reducible repeat (first|refine blk_drewN ?_ _|refine blk_drew ?_|refine blk_alloc ?_ _));refine blk_far ?_ NB107_110.out _;(with_reducible repeat (first|refine blk_drewN ?_ _|refine blk_drew ?_|refine blk_alloc ?_ _));refine blk_far ?_ NB107_110.out _;(with_reducible repeat (first|refine blk_drewN ?_ _|refine blk_drew ?_|refine blk_alloc ?_ _));refine blk_far ?_ NB107_110.out _;(with_reducible repeat (first|refine blk_drewN ?_ _|refine blk_drew ?_|refine blk_alloc ?_ _));exact BK107.out) hg (Kd.R_ne HO_3.out BK107.out (by decide)));have n1_:=Aside0.mk (blk_grown (g:=gb108) (o:= .cells #[.int .i64 0, .int .i64 0, .slice none 0 0] 43 (0,0)) (by (with_reducible repeat (first|refine blk_drewN ?_ _|refine blk_drew ?_|refine blk_alloc ?_ _));refine blk_far ?_ NB108_110.out _;(with_reducible repeat (first|refine blk_drewN ?_ _|refine blk_drew ?_|refine blk_alloc ?_ _));refine blk_far ?_ NB108_110.out _;(with_reducible repeat (first|refine blk_drewN ?_ _|refine blk_drew ?_|refine blk_alloc ?_ _));refine blk_far ?_ NB108_110.out _;(with_reducible repeat (first|refine blk_drewN ?_ _|refine blk_drew ?_|refine blk_alloc ?_ _));refine blk_far ?_ NB108_110.out _;(with_reducible repeat (first|refine blk_drewN ?_ _|refine blk_drew ?_|refine blk_alloc ?_ _));exact BK108.out) hg (Kd.R_ne HO_3.out BK108.out (by decide)));have n2_:=Aside0.mk (blk_grown (g:=gb110) (o:= .cells #[.string ((rd_T66 l0_2 x4_1).f0), .int .i64 ((rd_T66 l0_2 x4_1).f1), .string (((rd_T66 l0_2 x4_1).f2).extract 0 200)] 66 (0,0)) (by (with_reducible repeat (first|refine blk_drewN ?_ _|refine blk_drew ?_|refine blk_alloc ?_ _));refine blk_put (cs:=#[.string ((rd_T66 l0_2 x4_1).f0), .int .i64 ((rd_T66 l0_2 x4_1).f1), .string ((rd_T66 l0_2 x4_1).f2)]) ?_ 2 _ rfl;(with_reducible repeat (first|refine blk_drewN ?_ _|refine blk_drew ?_|refine blk_alloc ?_ _));refine blk_put (cs:=#[.string ((rd_T66 l0_2 x4_1).f0), .int .i64 ((rd_T66 l0_2 x4_1).f1), .string (⟨#[]⟩:ByteArray)]) ?_ 2 _ rfl;(with_reducible repeat (first|refine blk_drewN ?_ _|refine blk_drew ?_|refine blk_alloc ?_ _));refine blk_put (cs:=#[.string ((rd_T66 l0_2 x4_1).f0), .int .i64 0, .string (⟨#[]⟩:ByteArray)]) ?_ 1 _ rfl;(with_reducible repeat (first|refine blk_drewN ?_ _|refine blk_drew ?_|refine blk_alloc ?_ _));refine blk_put (cs:=#[.string (⟨#[]⟩:ByteArray), .int .i64 0, .string (⟨#[]⟩:ByteArray)]) ?_ 0 _ rfl;(with_reducible repeat (first|refine blk_drewN ?_ _|refine blk_drew ?_|refine blk_alloc ?_ _));exact BK110.out) hg (Kd.R_away HO_3.out (fun _ hk=>hk.2)));have n3_:=Aside0.mk (hb);have n4_:=Aside0.mk (ho);clear BK107;clear BK108;clear BK110;clear HB;clear HO_3;have BK107:=n0_;have BK108:=n1_;have BK110:=n2_;have HB:=n3_;have HO113:=n4_;clear n0_ n1_ n2_ n3_ n4_;clear ho hb hg hat))
            go_roundg kj3
            case measure=>have:=HK1.out;have:=HJ3.out;omega
            case rel=>exact ⟨(y111),(wrap64 (x4_1+1)),(by first|rfl|(simp;done)|(simp [*];done)),H',⟨by have:=HK1.out;have:=HJ3.out;omega⟩,⟨by (with_reducible repeat (first|apply Kd.R_alloc|apply Kd.R_drewN|apply Kd.R_drew));exact Kd.R_mono HO113.out (fun _ hk=>trivial)⟩,⟨by (with_reducible repeat (first|refine blk_drewN ?_ _|refine blk_drew ?_|refine blk_alloc ?_ _));exact BK107.out⟩,⟨by (with_reducible repeat (first|refine blk_drewN ?_ _|refine blk_drew ?_|refine blk_alloc ?_ _));exact BK108.out⟩,⟨by repeat (first|(with_reducible first|exact HB.out|apply below_alloc|apply pw_below_drewN|apply below_drew1|refine below_set ?_ GE107.out|refine below_set ?_ GE108.out|refine below_set ?_ GE110.out)|exact HB.out)⟩⟩
           ·rw [if_neg c16] at H
            exact absurd H (by simp)
          ·rw [if_neg c15] at H
           exact absurd H (by simp)
         ·rw [if_neg c14] at H
          exact absurd H (by simp)
        ·rw [if_neg c13] at H
         have c13b0:decide (200 < (((rd_T66 l0_2 x4_1).f2).size:Int))=false:=decide_eq_false c13
         have c13b1:decide (200 < ((rd_T66 l0_2 x4_1).f2).size)=false:=decide_eq_false (by omega)
         clear c13
         by_cases c24:x3_1.length < 3518437208883
         ·rw [if_pos c24] at H
          have LMc24:=Aside0.mk c24
          clear c24
          obtain ⟨y114,hy114⟩: ∃y_:List (S66),y_=(x3_1++[(⟨(rd_T66 l0_2 x4_1).f0,(rd_T66 l0_2 x4_1).f1,(rd_T66 l0_2 x4_1).f2⟩:S66)]):=⟨_,rfl⟩
          replace H:(barquelaw22_few.l0 kj3 y114 (wrap64 (x4_1+1)) a0_0 a0_1 l0_2)=some (r1,r2,r3):=by first|(rw [hy114];with_reducible exact H)|(have H2_:=(Option.bind_some _ _).symm.trans H;rw [hy114];with_reducible exact H2_)|(have H2_:=(Option.bind_some _ _).symm.trans H;with_reducible exact H2_)|with_reducible exact H|(rw [hy114];exact H)|exact H
          have Ny114:=Aside0.mk hy114
          clear hy114
          have H':=Aside0.mk H
          clear H
          have hnb25:=NB107_108.out
          have hnc25:=NB108_107.out
          have hcz26_0:wc.cell? ⟨gb107,0,none⟩=some (.int .i64 a0_0):=(blk_cell BK107.out 0).trans rfl
          have hcz26_1:wc.cell? ⟨gb107,1,none⟩=some (.int .i64 a0_1):=(blk_cell BK107.out 1).trans rfl
          have hcz26_2:wc.cell? ⟨gb107,2,none⟩=some (.slice A0_2 l0_2.length c0_2):=(blk_cell BK107.out 2).trans rfl
          have hfz26_0:=blk_frozen BK107.out 0
          have hfz26_1:=blk_frozen BK107.out 1
          have hfz26_2:=blk_frozen BK107.out 2
          have p109:0≤(x4_1:Int):=of_decide_eq_true (by assumption)
          have q109:x4_1 < (l0_2.length:Int):=of_decide_eq_true (by assumption)
          obtain ⟨ad109,e109,hx109_0,hx109_1,hx109_2⟩:=at_T66 HR0_2.out x4_1 p109 q109
          cases e109
          replace hx109_0:=(HB.out.cell (World.block_lt_of_cell? w _ hx109_0)).trans hx109_0
          replace hx109_1:=(HB.out.cell (World.block_lt_of_cell? w _ hx109_1)).trans hx109_1
          replace hx109_2:=(HB.out.cell (World.block_lt_of_cell? w _ hx109_2)).trans hx109_2
          replace p109:=eq_true p109
          replace q109:=eq_true q109
          go_wp2_with (first|((with_reducible refine gate_dst (N:=5) rfl ?_);refine box_event ?hg (N:=5) ?hd (cs:=#[.string (⟨#[]⟩:ByteArray), .int .i64 0, .string (⟨#[]⟩:ByteArray)]) (t:=66) ?hr ?_;(case hd=>rfl);(case hg=>rfl);(case hr=>first|(go_simp;done)|(go_simp;rfl));intro gb110 hg w27 hbox hb;have n0_:=Aside0.mk (Kd.R_below (Kd.R_elderB (by (with_reducible repeat (first|apply Kd.R_alloc|apply Kd.R_drewN|apply Kd.R_drew));exact HO_3.out) gb110 (Nat.le_of_eq hg.symm)) hb);have n1_:=Aside0.mk (blk_below (g:=gb107) (o:= .cells #[.int .i64 a0_0, .int .i64 a0_1, .slice (some ad109) l0_2.length c0_2] 43 (0,0)) (by (with_reducible repeat (first|refine blk_drewN ?_ _|refine blk_drew ?_|refine blk_alloc ?_ _));exact BK107.out) hb);have n2_:=Aside0.mk (blk_below (g:=gb108) (o:= .cells #[.int .i64 0, .int .i64 0, .slice none 0 0] 43 (0,0)) (by (with_reducible repeat (first|refine blk_drewN ?_ _|refine blk_drew ?_|refine blk_alloc ?_ _));exact BK108.out) hb);have n3_:=Aside0.mk (below_step (by repeat (first|(with_reducible first|exact HB.out|apply below_alloc|apply pw_below_drewN|apply below_drew1|refine below_set ?_ GE107.out|refine below_set ?_ GE108.out)|exact HB.out)) hb);have n4_:=Aside0.mk (hbox);have n5_:=Aside0.mk ((by rw [hg];exact (below_size (by repeat (first|(with_reducible first|exact HB.out|apply below_alloc|apply pw_below_drewN|apply below_drew1|refine below_set ?_ GE107.out|refine below_set ?_ GE108.out)|exact HB.out))):w.heap.size≤gb110));have n6_:=Aside0.mk ((by rw [hg];exact (below_size (by repeat (first|(with_reducible first|exact HB.out|apply below_alloc|apply pw_below_drewN|apply below_drew1|refine below_set ?_ GE107.out|refine below_set ?_ GE108.out)|exact HB.out))):w.heap.size≤gb110));have n7_:=Aside0.mk ((by rw [hg];exact Nat.ne_of_lt (blk_lt (g:=gb107) (o:= .cells #[.int .i64 a0_0, .int .i64 a0_1, .slice (some ad109) l0_2.length c0_2] 43 (0,0)) (by (with_reducible repeat (first|refine blk_drewN ?_ _|refine blk_drew ?_|refine blk_alloc ?_ _));exact BK107.out)):gb107≠gb110));have n8_:=Aside0.mk ((by rw [hg];exact Nat.ne_of_gt (blk_lt (g:=gb107) (o:= .cells #[.int .i64 a0_0, .int .i64 a0_1, .slice (some ad109) l0_2.length c0_2] 43 (0,0)) (by (with_reducible repeat (first|refine blk_drewN ?_ _|refine blk_drew ?_|refine blk_alloc ?_ _));exact BK107.out)):gb110≠gb107));have n9_:=Aside0.mk ((by rw [hg];exact Nat.ne_of_lt (blk_lt (g:=gb108) (o:= .cells #[.int .i64 0, .int .i64 0, .slice none 0 0] 43 (0,0)) (by (with_reducible repeat (first|refine blk_drewN ?_ _|refine blk_drew ?_|refine blk_alloc ?_ _));exact BK108.out)):gb108≠gb110));have n10_:=Aside0.mk ((by rw [hg];exact Nat.ne_of_gt (blk_lt (g:=gb108) (o:= .cells #[.int .i64 0, .int .i64 0, .slice none 0 0] 43 (0,0)) (by (with_reducible repeat (first|refine blk_drewN ?_ _|refine blk_drew ?_|refine blk_alloc ?_ _));exact BK108.out)):gb110≠gb108));clear HO_3;clear BK107;clear BK108;clear HB;have HO_3:=n0_;have BK107:=n1_;have BK108:=n2_;have HB:=n3_;have BK110:=n4_;have GW110:=n5_;have GE110:=n6_;have NB107_110:=n7_;have NB110_107:=n8_;have NB108_110:=n9_;have NB110_108:=n10_;clear n0_ n1_ n2_ n3_ n4_ n5_ n6_ n7_ n8_ n9_ n10_;clear hb hbox hg;have hnb28:=NB110_107.out;have hnc28:=NB107_110.out;have hnb29:=NB110_108.out;have hnc29:=NB108_110.out;have hcz30_0:w27.cell? ⟨gb110,0,none⟩=some (.string (⟨#[]⟩:ByteArray)):=(blk_cell BK110.out 0).trans rfl;have hcz30_1:w27.cell? ⟨gb110,1,none⟩=some (.int .i64 0):=(blk_cell BK110.out 1).trans rfl;have hcz30_2:w27.cell? ⟨gb110,2,none⟩=some (.string (⟨#[]⟩:ByteArray)):=(blk_cell BK110.out 2).trans rfl;have hfz30_0:=blk_frozen BK110.out 0;have hfz30_1:=blk_frozen BK110.out 1;have hfz30_2:=blk_frozen BK110.out 2)|((with_reducible refine gate_builtin (b:= .append) (xs:=#[.tmp 30, .tmp 32]) rfl ?_);at_builtin;refine Kd.R_append k66 (w0:=w) w.heap.size rfl (.tmp 30) (.tmp 32) 37 66 (.agg #[(.string ⟨#[]⟩),(.int .i64 0),(.string ⟨#[]⟩)]) 40 rfl Tryd.underlying37 info66 rfl (by decide) (by omega) u3 x3_1 (⟨(rd_T66 l0_2 x4_1).f0,(rd_T66 l0_2 x4_1).f1,(rd_T66 l0_2 x4_1).f2⟩:S66) [.string ((rd_T66 l0_2 x4_1).f0), .int .i64 ((rd_T66 l0_2 x4_1).f1), .string ((rd_T66 l0_2 x4_1).f2)] (fun k_=>k_≠gb110) (fun _=>False) rfl (by first|(go_simp;done)|(go_simp;rfl)) ?aP (fun _ hk=>hk.elim) ?aF ?aO ?aB ?aS ?aL ?_;(case aP=>exact k66_mkM _ _ _ (⟨(rd_T66 l0_2 x4_1).f0,(rd_T66 l0_2 x4_1).f1,(rd_T66 l0_2 x4_1).f2⟩:S66));(case aB=>exact (by repeat (first|(with_reducible first|exact HB.out|apply below_alloc|apply pw_below_drewN|apply below_drew1|refine below_set ?_ GE107.out|refine below_set ?_ GE108.out|refine below_set ?_ GE110.out)|exact HB.out)));(case aF=>exact (fun k_ hk=>Kd.freshB (g:=gb110) (o:= .cells #[.string ((rd_T66 l0_2 x4_1).f0), .int .i64 ((rd_T66 l0_2 x4_1).f1), .string ((rd_T66 l0_2 x4_1).f2)] 66 (0,0)) (by (with_reducible repeat (first|refine blk_drewN ?_ _|refine blk_drew ?_|refine blk_alloc ?_ _));refine blk_put (cs:=#[.string ((rd_T66 l0_2 x4_1).f0), .int .i64 ((rd_T66 l0_2 x4_1).f1), .string (⟨#[]⟩:ByteArray)]) ?_ 2 _ rfl;(with_reducible repeat (first|refine blk_drewN ?_ _|refine blk_drew ?_|refine blk_alloc ?_ _));refine blk_put (cs:=#[.string ((rd_T66 l0_2 x4_1).f0), .int .i64 0, .string (⟨#[]⟩:ByteArray)]) ?_ 1 _ rfl;(with_reducible repeat (first|refine blk_drewN ?_ _|refine blk_drew ?_|refine blk_alloc ?_ _));refine blk_put (cs:=#[.string (⟨#[]⟩:ByteArray), .int .i64 0, .string (⟨#[]⟩:ByteArray)]) ?_ 0 _ rfl;(with_reducible repeat (first|refine blk_drewN ?_ _|refine blk_drew ?_|refine blk_alloc ?_ _));exact BK110.out) k_ hk));(case aO=>exact (by (with_reducible repeat (first|apply Kd.R_alloc|apply Kd.R_drewN|apply Kd.R_drew));exact Kd.R_mono (Kd.R_far (p:=⟨gb110,2,none⟩) (Kd.R_far (p:=⟨gb110,1,none⟩) (Kd.R_far (p:=⟨gb110,0,none⟩) (Kd.R_mono HO_3.out (fun k_ hk=>(⟨hk,hk.2⟩:_∧k_≠gb110))) (fun _ hk=>hk.2) (.string ((rd_T66 l0_2 x4_1).f0))) (fun _ hk=>hk.2) (.int .i64 ((rd_T66 l0_2 x4_1).f1))) (fun _ hk=>hk.2) (.string ((rd_T66 l0_2 x4_1).f2))) (fun _ hk=>hk.1.2)));(case aS=>exact (below_size (by repeat (first|(with_reducible first|exact HB.out|apply below_alloc|apply pw_below_drewN|apply below_drew1|refine below_set ?_ GE107.out|refine below_set ?_ GE108.out|refine below_set ?_ GE110.out)|exact HB.out))));(case aL=>have:=LMc24.out;omega);intro v115 w31 ho hb hg hat;rw [← Ny114.out] at ho;have n0_:=Aside0.mk (blk_grown (g:=gb107) (o:= .cells #[.int .i64 a0_0, .int .i64 a0_1, .slice (some ad109) l0_2.length c0_2] 43 (0,0)) (by (with_reducible repeat (first|refine blk_drewN ?_ _|refine blk_drew ?_|refine blk_alloc ?_ _));refine blk_far ?_ NB107_110.out _;(with_reducible repeat (first|refine blk_drewN ?_ _|refine blk_drew ?_|refine blk_alloc ?_ _));refine blk_far ?_ NB107_110.out _;(with_reducible repeat (first|refine blk_drewN ?_ _|refine blk_drew ?_|refine blk_alloc ?_ _));refine blk_far ?_ NB107_110.out _;(with_reducible repeat (first|refine blk_drewN ?_ _|refine blk_drew ?_|refine blk_alloc ?_ _));exact BK107.out) hg (Kd.R_ne HO_3.out BK107.out (by decide)));have n1_:=Aside0.mk (blk_grown (g:=gb108) (o:= .cells #[.int .i64 0, .int .i64 0, .slice none 0 0] 43 (0,0)) (by (with_reducible repeat (first|refine blk_drewN ?_ _|refine blk_drew ?_|refine blk_alloc ?_ _));refine blk_far ?_ NB108_110.out _;(with_reducible repeat (first|refine blk_drewN ?_ _|refine blk_drew ?_|refine blk_alloc ?_ _));refine blk_far ?_ NB108_110.out _;(with_reducible repeat (first|refine blk_drewN ?_ _|refine blk_drew ?_|refine blk_alloc ?_ _));refine blk_far ?_ NB108_110.out _;(with_reducible repeat (first|refine blk_drewN ?_ _|refine blk_drew ?_|refine blk_alloc ?_ _));exact BK108.out) hg (Kd.R_ne HO_3.out BK108.out (by decide)));have n2_:=Aside0.mk (blk_grown (g:=gb110) (o:= .cells #[.string ((rd_T66 l0_2 x4_1).f0), .int .i64 ((rd_T66 l0_2 x4_1).f1), .string ((rd_T66 l0_2 x4_1).f2)] 66 (0,0)) (by (with_reducible repeat (first|refine blk_drewN ?_ _|refine blk_drew ?_|refine blk_alloc ?_ _));refine blk_put (cs:=#[.string ((rd_T66 l0_2 x4_1).f0), .int .i64 ((rd_T66 l0_2 x4_1).f1), .string (⟨#[]⟩:ByteArray)]) ?_ 2 _ rfl;(with_reducible repeat (first|refine blk_drewN ?_ _|refine blk_drew ?_|refine blk_alloc ?_ _));refine blk_put (cs:=#[.string ((rd_T66 l0_2 x4_1).f0), .int .i64 0, .string (⟨#[]⟩:ByteArray)]) ?_ 1 _ rfl;(with_reducible repeat (first|refine blk_drewN ?_ _|refine blk_drew ?_|refine blk_alloc ?_ _));refine blk_put (cs:=#[.string (⟨#[]⟩:ByteArray), .int .i64 0, .string (⟨#[]⟩:ByteArray)]) ?_ 0 _ rfl;(with_reducible repeat (first|refine blk_drewN ?_ _|refine blk_drew ?_|refine blk_alloc ?_ _));exact BK110.out) hg (Kd.R_away HO_3.out (fun _ hk=>hk.2)));have n3_:=Aside0.mk (hb);have n4_:=Aside0.mk (ho);clear BK107;clear BK108;clear BK110;clear HB;clear HO_3;have BK107:=n0_;have BK108:=n1_;have BK110:=n2_;have HB:=n3_;have HO116:=n4_;clear n0_ n1_ n2_ n3_ n4_;clear ho hb hg hat))
          go_roundg kj3
          case measure=>have:=HK1.out;have:=HJ3.out;omega
          case rel=>exact ⟨(y114),(wrap64 (x4_1+1)),(by first|rfl|(simp;done)|(simp [*];done)),H',⟨by have:=HK1.out;have:=HJ3.out;omega⟩,⟨by (with_reducible repeat (first|apply Kd.R_alloc|apply Kd.R_drewN|apply Kd.R_drew));exact Kd.R_mono HO116.out (fun _ hk=>trivial)⟩,⟨by (with_reducible repeat (first|refine blk_drewN ?_ _|refine blk_drew ?_|refine blk_alloc ?_ _));exact BK107.out⟩,⟨by (with_reducible repeat (first|refine blk_drewN ?_ _|refine blk_drew ?_|refine blk_alloc ?_ _));exact BK108.out⟩,⟨by repeat (first|(with_reducible first|exact HB.out|apply below_alloc|apply pw_below_drewN|apply below_drew1|refine below_set ?_ GE107.out|refine below_set ?_ GE108.out|refine below_set ?_ GE110.out)|exact HB.out)⟩⟩
         ·rw [if_neg c24] at H
          exact absurd H (by simp)
       ·rw [if_neg c12] at H
        exact absurd H (by simp)
      ·rw [if_neg c11] at H
       exact absurd H (by simp)
     ·replace c10:=Bool.eq_false_iff.mpr c10
      subst c10
      have H1:(some (a0_0,a0_1,x3_1))=some (r1,r2,r3):=by rw [if_neg (show ¬(false=true) by decide)] at H;exact H
      clear H
      have H:=H1
      clear H1
      simp only [Option.some.injEq,Prod.mk.injEq] at H
      obtain ⟨rfl,rfl,rfl⟩:=H
      obtain ⟨Ao32,co32,eo32⟩:=Kd.R_slice HO_3.out
      subst eo32
      have hnb33:=NB107_108.out
      have hnc33:=NB108_107.out
      have hcz34_0:wc.cell? ⟨gb107,0,none⟩=some (.int .i64 a0_0):=(blk_cell BK107.out 0).trans rfl
      have hcz34_1:wc.cell? ⟨gb107,1,none⟩=some (.int .i64 a0_1):=(blk_cell BK107.out 1).trans rfl
      have hcz34_2:wc.cell? ⟨gb107,2,none⟩=some (.slice A0_2 l0_2.length c0_2):=(blk_cell BK107.out 2).trans rfl
      have hfz34_0:=blk_frozen BK107.out 0
      have hfz34_1:=blk_frozen BK107.out 1
      have hfz34_2:=blk_frozen BK107.out 2
      have hcz35_0:wc.cell? ⟨gb108,0,none⟩=some (.int .i64 0):=(blk_cell BK108.out 0).trans rfl
      have hcz35_1:wc.cell? ⟨gb108,1,none⟩=some (.int .i64 0):=(blk_cell BK108.out 1).trans rfl
      have hcz35_2:wc.cell? ⟨gb108,2,none⟩=some (.slice none 0 0):=(blk_cell BK108.out 2).trans rfl
      have hfz35_0:=blk_frozen BK108.out 0
      have hfz35_1:=blk_frozen BK108.out 1
      have hfz35_2:=blk_frozen BK108.out 2
      go_wp2
      refine bodyPost_ret (results_cell_row rfl _ _ gb108 43 #[.int .i64 a0_0, .int .i64 a0_1, .slice Ao32 x3_1.length co32] (0,0) _ rfl (by (with_reducible repeat (first|refine blk_drewN ?_ _|refine blk_drew ?_|refine blk_alloc ?_ _));refine blk_put (cs:=#[.int .i64 a0_0, .int .i64 a0_1, .slice none 0 0]) ?_ 2 _ rfl;(with_reducible repeat (first|refine blk_drewN ?_ _|refine blk_drew ?_|refine blk_alloc ?_ _));refine blk_put (cs:=#[.int .i64 a0_0, .int .i64 0, .slice none 0 0]) ?_ 1 _ rfl;(with_reducible repeat (first|refine blk_drewN ?_ _|refine blk_drew ?_|refine blk_alloc ?_ _));refine blk_put (cs:=#[.int .i64 0, .int .i64 0, .slice none 0 0]) ?_ 0 _ rfl;(with_reducible repeat (first|refine blk_drewN ?_ _|refine blk_drew ?_|refine blk_alloc ?_ _));refine blk_far ?_ NB108_107.out _;(with_reducible repeat (first|refine blk_drewN ?_ _|refine blk_drew ?_|refine blk_alloc ?_ _));exact BK108.out) Tryd.underlying43 rfl (by kernel_rfl)) rfl ?_
      exact ⟨_,by first|rfl|(simp [errW_none]<;>rfl)|(simp [*]<;>rfl),by (with_reducible repeat (first|apply Kd.R_alloc|apply Kd.R_drewN|apply Kd.R_drew));exact Kd.R_mono (Kd.R_far (p:=⟨gb108,2,none⟩) (Kd.R_far (p:=⟨gb108,1,none⟩) (Kd.R_far (p:=⟨gb108,0,none⟩) (Kd.R_far (p:=⟨gb107,2,none⟩) (Kd.R_types (Kd.R_types HO_3.out BK107.out (by decide)) BK108.out (by decide)) (fun _ hk=>hk.1.2) (.slice Ao32 x3_1.length co32)) (fun _ hk=>hk.2) (.int .i64 a0_0)) (fun _ hk=>hk.2) (.int .i64 a0_1)) (fun _ hk=>hk.2) (.slice Ao32 x3_1.length co32)) (fun _ hk=>trivial),by repeat (first|(with_reducible first|exact HB.out|apply below_alloc|apply pw_below_drewN|apply below_drew1|refine below_set ?_ GE107.out|refine below_set ?_ GE108.out)|exact HB.out)⟩
end Go.Proofs.YthejnffhfmdpnaaDoor.Q

end

section
namespace Go.Proofs.YthejnffhfmdpnaaDoor.Q
open Go.RowKit Go.Proofs.YthejnffhfmdpnaaDoorW.PrintWords Go.Proofs.YthejnffhfmdpnaaDoorW.PrintLast Go.Proofs.YthejnffhfmdpnaaDoorW.PrintMore
attribute [local go_sem] min2_int min_two
set_option linter.unusedVariables false
set_option linter.unusedSimpArgs false
theorem eqA66 (d:Nat) (w:World) (x0 y0:ByteArray) (x1 y1:Int) (x2 y2:ByteArray):
  (Op.equalIn (d+2) 66 (.agg #[.string x0, .int .i64 x1, .string x2]) (.agg #[.string y0, .int .i64 y1, .string y2])).run Tryd.prog w= .ok (x0.toList == y0.toList && (x1 == y1 && (x2.toList == y2.toList))) w:=by
 refine eqA_of Tryd.underlying66 (by kernel_rfl) ?_
 refine eqf_cons (by rfl) (by go_simp;rfl) (by go_simp;rfl) (by go_simp) ?_
 refine eqf_cons (by rfl) (by go_simp;rfl) (by go_simp;rfl) (by go_simp) ?_
 exact eqf_last (by rfl) (by go_simp;rfl) (by go_simp;rfl) (by go_simp)
end Go.Proofs.YthejnffhfmdpnaaDoor.Q

end

section
namespace Go.Proofs.YthejnffhfmdpnaaDoor.Q
open Go.RowKit Go.Proofs.YthejnffhfmdpnaaDoorW.PrintWords Go.Proofs.YthejnffhfmdpnaaDoorW.PrintLast Go.Proofs.YthejnffhfmdpnaaDoorW.PrintMore
attribute [local go_sem] min2_int min_two
set_option linter.unusedVariables false
set_option linter.unusedSimpArgs false
attribute [local go_sem high] eqA66
def barqueref09_Files.l0:Nat→List (S66)→List (S66)→Int→Option (Bool)
 |0,_,_,_=>none
 |k+1,x0,x1,x5=>if x5 < (x0.length:Int) then (if 0≤x5 then (if x5 < (x1.length:Int) then (if (!((((rd_T66 x0 x5).f0).toList) == (((rd_T66 x1 x5).f0).toList)) || (!(((rd_T66 x0 x5).f1) == ((rd_T66 x1 x5).f1)) || (!((((rd_T66 x0 x5).f2).toList) == (((rd_T66 x1 x5).f2).toList)))))=true then (some false) else (barqueref09_Files.l0 k x0 x1 (wrap64 (x5+1)))) else (none)) else (none)) else (some true)
def barqueref09_Files.f (k:Nat) (l0:List (S66)) (l1:List (S66)):Option (Bool):=if (l0.length:Int)=(l1.length:Int) then (barqueref09_Files.l0 k l0 l1 0) else (some false)
set_option maxHeartbeats 8000000 in
set_option maxRecDepth 100000 in
theorem barqueref09_Files.calls (k:Nat) (A0:Option Addr) (c0:Nat) (l0:List (S66)) (A1:Option Addr) (c1:Nat) (l1:List (S66)) (r:Bool) (w:World) (hr0:Kd.C k66 w A0 l0.length l0) (hc0:l0.length≤c0) (hr1:Kd.C k66 w A1 l1.length l1) (hc1:l1.length≤c1) (h:barqueref09_Files.f k l0 l1=some r):
  Calls Tryd.prog 35 #[.slice A0 l0.length c0, .slice A1 l1.length c1] w fun e w'=>e= .returned (.bool r)∧Drawn0 w w':=by
 have hu66:=Tryd.underlying66
 have HR0:=Aside0.mk hr0
 have HC0:=Aside0.mk hc0
 clear hr0 hc0
 have HR1:=Aside0.mk hr1
 have HC1:=Aside0.mk hc1
 clear hr1 hc1
 have H:(if (l0.length:Int)=(l1.length:Int) then (barqueref09_Files.l0 k l0 l1 0) else (some false))=some r:=h
 clear h
 by_cases c3:(l0.length:Int)=(l1.length:Int)
 ·rw [if_pos c3] at H
  have c3b0:((l0.length:Int) == (l1.length:Int))=true:=beq_iff_eq.mpr c3
  have c3b1:((l0.length:Int) != (l1.length:Int))=false:=bne_eq_false_iff_eq.mpr c3
  have c3b2:(l0.length == l1.length)=true:=by first|simpa using c3|(simp at c3 ⊢;omega)
  clear c3
  have H':=Aside0.mk H
  clear H
  go_enter Tryd.func35,Tryd.ntmps35
  go_wp2
  repeat (go_quiet (fail);try go_wp2)
  go_loopg [5] k (fun kq v5 w'=> ∃(x5_1:Int),v5= .int .i64 x5_1∧Aside0 (barqueref09_Files.l0 kq l0 l1 x5_1=some r)∧Aside0 (kq≤k)∧Drawn0 w w')
  case atStart=>exact ⟨(0),(by first|rfl|(simp;done)|(simp [*];done)),H',⟨Nat.le_refl _⟩,by repeat (first|exact Drawn0.refl _|apply Drawn0.step)⟩
  case round=>
   clear H'
   obtain ⟨x5_1,rfl,HA,HK1,⟨m1,rfl⟩⟩:=hrel
   cases gk with
   |zero=>exact absurd HA.out (by simp [barqueref09_Files.l0])
   |succ k1=>
    have H:=HA.out
    clear HA
    simp only [barqueref09_Files.l0] at H
    by_cases c4:x5_1 < (l0.length:Int)
    ·rw [if_pos c4] at H
     have c4b0:decide (x5_1 < (l0.length:Int))=true:=decide_eq_true c4
     clear c4
     by_cases c5:0≤x5_1
     ·rw [if_pos c5] at H
      have c5b0:decide (0≤x5_1)=true:=decide_eq_true c5
      clear c5
      by_cases c6:x5_1 < (l1.length:Int)
      ·rw [if_pos c6] at H
       have c6b0:decide (x5_1 < (l1.length:Int))=true:=decide_eq_true c6
       clear c6
       by_cases c7:(!((((rd_T66 l0 x5_1).f0).toList) == (((rd_T66 l1 x5_1).f0).toList)) || (!(((rd_T66 l0 x5_1).f1) == ((rd_T66 l1 x5_1).f1)) || (!((((rd_T66 l0 x5_1).f2).toList) == (((rd_T66 l1 x5_1).f2).toList)))))=true
       ·rw [if_pos c7] at H
        have c7b0:(!((((rd_T66 l0 x5_1).f0).toList) == (((rd_T66 l1 x5_1).f0).toList)) || (!(((rd_T66 l0 x5_1).f1) == ((rd_T66 l1 x5_1).f1)) || (!((((rd_T66 l0 x5_1).f2).toList) == (((rd_T66 l1 x5_1).f2).toList)))))=true:=c7
        clear c7
        obtain rfl:=Option.some.inj H
        have p283:0≤(x5_1:Int):=of_decide_eq_true (by assumption)
        have q283:x5_1 < (l0.length:Int):=of_decide_eq_true (by assumption)
        obtain ⟨ad283,e283,hx283_0,hx283_1,hx283_2⟩:=at_T66 HR0.out x5_1 p283 q283
        cases e283
        replace p283:=eq_true p283
        replace q283:=eq_true q283
        have p284:0≤(x5_1:Int):=of_decide_eq_true (by assumption)
        have q284:x5_1 < (l1.length:Int):=of_decide_eq_true (by assumption)
        obtain ⟨ad284,e284,hx284_0,hx284_1,hx284_2⟩:=at_T66 HR1.out x5_1 p284 q284
        cases e284
        replace p284:=eq_true p284
        replace q284:=eq_true q284
        go_wp2
        repeat (go_quiet (fail);try go_wp2)
        go_ret
        exact ⟨by first|rfl|(simp;done)|(simp [*];done),by repeat (first|exact Drawn0.refl _|apply Drawn0.step)⟩
       ·rw [if_neg c7] at H
        have c7b0:(!((((rd_T66 l0 x5_1).f0).toList) == (((rd_T66 l1 x5_1).f0).toList)) || (!(((rd_T66 l0 x5_1).f1) == ((rd_T66 l1 x5_1).f1)) || (!((((rd_T66 l0 x5_1).f2).toList) == (((rd_T66 l1 x5_1).f2).toList)))))=false:=by simpa using c7
        clear c7
        have H':=Aside0.mk H
        clear H
        have p283:0≤(x5_1:Int):=of_decide_eq_true (by assumption)
        have q283:x5_1 < (l0.length:Int):=of_decide_eq_true (by assumption)
        obtain ⟨ad283,e283,hx283_0,hx283_1,hx283_2⟩:=at_T66 HR0.out x5_1 p283 q283
        cases e283
        replace p283:=eq_true p283
        replace q283:=eq_true q283
        have p284:0≤(x5_1:Int):=of_decide_eq_true (by assumption)
        have q284:x5_1 < (l1.length:Int):=of_decide_eq_true (by assumption)
        obtain ⟨ad284,e284,hx284_0,hx284_1,hx284_2⟩:=at_T66 HR1.out x5_1 p284 q284
        cases e284
        replace p284:=eq_true p284
        replace q284:=eq_true q284
        go_wp2
        repeat (go_quiet (fail);try go_wp2)
        go_roundg k1
        case measure=>have:=HK1.out;omega
        case rel=>exact ⟨(wrap64 (x5_1+1)),(by first|rfl|(simp;done)|(simp [*];done)),H',⟨by have:=HK1.out;omega⟩,by repeat (first|exact Drawn0.refl _|apply Drawn0.step)⟩
      ·rw [if_neg c6] at H
       exact absurd H (by simp)
     ·rw [if_neg c5] at H
      exact absurd H (by simp)
    ·rw [if_neg c4] at H
     have c4b0:decide (x5_1 < (l0.length:Int))=false:=decide_eq_false c4
     clear c4
     obtain rfl:=Option.some.inj H
     go_wp2
     repeat (go_quiet (fail);try go_wp2)
     go_ret
     exact ⟨by first|rfl|(simp;done)|(simp [*];done),by repeat (first|exact Drawn0.refl _|apply Drawn0.step)⟩
 ·rw [if_neg c3] at H
  have c3b0:((l0.length:Int) == (l1.length:Int))=false:=beq_eq_false_iff_ne.mpr c3
  have c3b1:((l0.length:Int) != (l1.length:Int))=true:=bne_iff_ne.mpr c3
  have c3b2:(l0.length == l1.length)=false:=by first|simpa using c3|(simp at c3 ⊢;omega)
  obtain rfl:=Option.some.inj H
  go_enter Tryd.func35,Tryd.ntmps35
  go_wp2
  repeat (go_quiet (fail);try go_wp2)
  go_ret
  exact ⟨by first|rfl|(simp;done)|(simp [*];done),by repeat (first|exact Drawn0.refl _|apply Drawn0.step)⟩
end Go.Proofs.YthejnffhfmdpnaaDoor.Q

end

section
namespace Go.Proofs.YthejnffhfmdpnaaDoor.Q
open Go.RowKit Go.Proofs.YthejnffhfmdpnaaDoorW.PrintWords Go.Proofs.YthejnffhfmdpnaaDoorW.PrintLast Go.Proofs.YthejnffhfmdpnaaDoorW.PrintMore
attribute [local go_sem] min2_int min_two
set_option linter.unusedVariables false
set_option linter.unusedSimpArgs false
def barquelaw22_answers.f (k:Nat) (a0_0:Int) (a0_1:Int) (a0_2:Int) (l0_3:List (S66)) (l0_4:List ByteArray) (a1_0:Int) (a1_1:Int) (a1_2:Int) (l1_3:List (S66)) (l1_4:List ByteArray):Option (Bool):=if a0_0=a1_0 then (if a0_1=a1_1 then (if a0_2=a1_2 then ((barqueref09_Files.f k l0_3 l1_3).bind fun t287=>(some t287)) else (some false)) else (some false)) else (some false)
set_option maxHeartbeats 8000000 in
set_option maxRecDepth 100000 in
theorem barquelaw22_answers.calls (k:Nat) (a0_0:Int) (a0_1:Int) (a0_2:Int) (A0_3:Option Addr) (c0_3:Nat) (l0_3:List (S66)) (A0_4:Option Addr) (c0_4:Nat) (l0_4:List ByteArray) (a1_0:Int) (a1_1:Int) (a1_2:Int) (A1_3:Option Addr) (c1_3:Nat) (l1_3:List (S66)) (A1_4:Option Addr) (c1_4:Nat) (l1_4:List ByteArray) (r:Bool) (w:World) (hr0_3:Kd.C k66 w A0_3 l0_3.length l0_3) (hc0_3:l0_3.length≤c0_3) (hr0_4:Kd.C Kd.string w A0_4 l0_4.length l0_4) (hc0_4:l0_4.length≤c0_4) (hr1_3:Kd.C k66 w A1_3 l1_3.length l1_3) (hc1_3:l1_3.length≤c1_3) (hr1_4:Kd.C Kd.string w A1_4 l1_4.length l1_4) (hc1_4:l1_4.length≤c1_4) (h:barquelaw22_answers.f k a0_0 a0_1 a0_2 l0_3 l0_4 a1_0 a1_1 a1_2 l1_3 l1_4=some r):
  Calls Tryd.prog 19 #[.agg #[.int .i64 a0_0, .int .i64 a0_1, .int .i64 a0_2, .slice A0_3 l0_3.length c0_3, .slice A0_4 l0_4.length c0_4], .agg #[.int .i64 a1_0, .int .i64 a1_1, .int .i64 a1_2, .slice A1_3 l1_3.length c1_3, .slice A1_4 l1_4.length c1_4]] w fun e w'=>e= .returned (.bool r)∧Below w.heap.size w w':=by
 have hu39:=Tryd.underlying39
 have HR0_3:=Aside0.mk hr0_3
 have HC0_3:=Aside0.mk hc0_3
 clear hr0_3 hc0_3
 have HR0_4:=Aside0.mk hr0_4
 have HC0_4:=Aside0.mk hc0_4
 clear hr0_4 hc0_4
 have HR1_3:=Aside0.mk hr1_3
 have HC1_3:=Aside0.mk hc1_3
 clear hr1_3 hc1_3
 have HR1_4:=Aside0.mk hr1_4
 have HC1_4:=Aside0.mk hc1_4
 clear hr1_4 hc1_4
 have HB:=Aside0.mk (Below.refl w.heap.size w)
 have H:(if a0_0=a1_0 then (if a0_1=a1_1 then (if a0_2=a1_2 then ((barqueref09_Files.f k l0_3 l1_3).bind fun t287=>(some t287)) else (some false)) else (some false)) else (some false))=some r:=h
 clear h
 by_cases c3:a0_0=a1_0
 ·rw [if_pos c3] at H
  have c3b0:(a0_0 == a1_0)=true:=beq_iff_eq.mpr c3
  have c3b1:(a0_0 != a1_0)=false:=bne_eq_false_iff_eq.mpr c3
  clear c3
  by_cases c4:a0_1=a1_1
  ·rw [if_pos c4] at H
   have c4b0:(a0_1 == a1_1)=true:=beq_iff_eq.mpr c4
   have c4b1:(a0_1 != a1_1)=false:=bne_eq_false_iff_eq.mpr c4
   clear c4
   by_cases c5:a0_2=a1_2
   ·rw [if_pos c5] at H
    have c5b0:(a0_2 == a1_2)=true:=beq_iff_eq.mpr c5
    have c5b1:(a0_2 != a1_2)=false:=bne_eq_false_iff_eq.mpr c5
    clear c5
    replace H:=Option.bind_eq_some_iff.mp H
    obtain ⟨t287,A60,H⟩:=H
    replace H:(some t287)=some r:=H
    have A6:=Aside0.mk A60
    clear A60
    obtain rfl:=Option.some.inj H
    go_enter Tryd.func19,Tryd.ntmps19
    go_wp2_with (first|((with_reducible refine gate_dst (N:=2) rfl ?_);refine box_event ?hg (N:=2) ?hd (cs:=#[.int .i64 a0_0, .int .i64 a0_1, .int .i64 a0_2, .slice A0_3 l0_3.length c0_3, .slice A0_4 l0_4.length c0_4]) (t:=39) ?hr ?_;(case hd=>rfl);(case hg=>rfl);(case hr=>first|(go_simp;done)|(go_simp;rfl));intro gb285 hg w7 hbox hb;have n0_:=Aside0.mk (below_step (by repeat (first|(with_reducible first|exact HB.out|apply below_alloc|apply pw_below_drewN|apply below_drew1)|exact HB.out)) hb);have n1_:=Aside0.mk (hbox);have n2_:=Aside0.mk ((by rw [hg];exact (below_size (by repeat (first|(with_reducible first|exact HB.out|apply below_alloc|apply pw_below_drewN|apply below_drew1)|exact HB.out))):w.heap.size≤gb285));have n3_:=Aside0.mk ((by rw [hg];exact (below_size (by repeat (first|(with_reducible first|exact HB.out|apply below_alloc|apply pw_below_drewN|apply below_drew1)|exact HB.out))):w.heap.size≤gb285));clear HB;have HB:=n0_;have BK285:=n1_;have GW285:=n2_;have GE285:=n3_;clear n0_ n1_ n2_ n3_;clear hb hbox hg)|((with_reducible refine gate_dst (N:=3) rfl ?_);refine box_event ?hg (N:=3) ?hd (cs:=#[.int .i64 a1_0, .int .i64 a1_1, .int .i64 a1_2, .slice A1_3 l1_3.length c1_3, .slice A1_4 l1_4.length c1_4]) (t:=39) ?hr ?_;(case hd=>rfl);(case hg=>rfl);(case hr=>first|(go_simp;done)|(go_simp;rfl));intro gb286 hg w8 hbox hb;have n0_:=Aside0.mk (blk_below (g:=gb285) (o:= .cells #[.int .i64 a0_0, .int .i64 a0_1, .int .i64 a0_2, .slice A0_3 l0_3.length c0_3, .slice A0_4 l0_4.length c0_4] 39 (0,0)) (by (with_reducible repeat (first|refine blk_drewN ?_ _|refine blk_drew ?_|refine blk_alloc ?_ _));exact BK285.out) hb);have n1_:=Aside0.mk (below_step (by repeat (first|(with_reducible first|exact HB.out|apply below_alloc|apply pw_below_drewN|apply below_drew1|refine below_set ?_ GE285.out)|exact HB.out)) hb);have n2_:=Aside0.mk (hbox);have n3_:=Aside0.mk ((by rw [hg];exact (below_size (by repeat (first|(with_reducible first|exact HB.out|apply below_alloc|apply pw_below_drewN|apply below_drew1|refine below_set ?_ GE285.out)|exact HB.out))):w.heap.size≤gb286));have n4_:=Aside0.mk ((by rw [hg];exact (below_size (by repeat (first|(with_reducible first|exact HB.out|apply below_alloc|apply pw_below_drewN|apply below_drew1|refine below_set ?_ GE285.out)|exact HB.out))):w.heap.size≤gb286));have n5_:=Aside0.mk ((by rw [hg];exact Nat.ne_of_lt (blk_lt (g:=gb285) (o:= .cells #[.int .i64 a0_0, .int .i64 a0_1, .int .i64 a0_2, .slice A0_3 l0_3.length c0_3, .slice A0_4 l0_4.length c0_4] 39 (0,0)) (by (with_reducible repeat (first|refine blk_drewN ?_ _|refine blk_drew ?_|refine blk_alloc ?_ _));exact BK285.out)):gb285≠gb286));have n6_:=Aside0.mk ((by rw [hg];exact Nat.ne_of_gt (blk_lt (g:=gb285) (o:= .cells #[.int .i64 a0_0, .int .i64 a0_1, .int .i64 a0_2, .slice A0_3 l0_3.length c0_3, .slice A0_4 l0_4.length c0_4] 39 (0,0)) (by (with_reducible repeat (first|refine blk_drewN ?_ _|refine blk_drew ?_|refine blk_alloc ?_ _));exact BK285.out)):gb286≠gb285));clear BK285;clear HB;have BK285:=n0_;have HB:=n1_;have BK286:=n2_;have GW286:=n3_;have GE286:=n4_;have NB285_286:=n5_;have NB286_285:=n6_;clear n0_ n1_ n2_ n3_ n4_ n5_ n6_;clear hb hbox hg;have hnb9:=NB285_286.out;have hnc9:=NB286_285.out;have hcz10_0:w8.cell? ⟨gb285,0,none⟩=some (.int .i64 a0_0):=(blk_cell BK285.out 0).trans rfl;have hcz10_1:w8.cell? ⟨gb285,1,none⟩=some (.int .i64 a0_1):=(blk_cell BK285.out 1).trans rfl;have hcz10_2:w8.cell? ⟨gb285,2,none⟩=some (.int .i64 a0_2):=(blk_cell BK285.out 2).trans rfl;have hcz10_3:w8.cell? ⟨gb285,3,none⟩=some (.slice A0_3 l0_3.length c0_3):=(blk_cell BK285.out 3).trans rfl;have hcz10_4:w8.cell? ⟨gb285,4,none⟩=some (.slice A0_4 l0_4.length c0_4):=(blk_cell BK285.out 4).trans rfl;have hfz10_0:=blk_frozen BK285.out 0;have hfz10_1:=blk_frozen BK285.out 1;have hfz10_2:=blk_frozen BK285.out 2;have hfz10_3:=blk_frozen BK285.out 3;have hfz10_4:=blk_frozen BK285.out 4;have hcz11_0:w8.cell? ⟨gb286,0,none⟩=some (.int .i64 a1_0):=(blk_cell BK286.out 0).trans rfl;have hcz11_1:w8.cell? ⟨gb286,1,none⟩=some (.int .i64 a1_1):=(blk_cell BK286.out 1).trans rfl;have hcz11_2:w8.cell? ⟨gb286,2,none⟩=some (.int .i64 a1_2):=(blk_cell BK286.out 2).trans rfl;have hcz11_3:w8.cell? ⟨gb286,3,none⟩=some (.slice A1_3 l1_3.length c1_3):=(blk_cell BK286.out 3).trans rfl;have hcz11_4:w8.cell? ⟨gb286,4,none⟩=some (.slice A1_4 l1_4.length c1_4):=(blk_cell BK286.out 4).trans rfl;have hfz11_0:=blk_frozen BK286.out 0;have hfz11_1:=blk_frozen BK286.out 1;have hfz11_2:=blk_frozen BK286.out 2;have hfz11_3:=blk_frozen BK286.out 3;have hfz11_4:=blk_frozen BK286.out 4)|(go_at_call 35;(with_reducible refine (barqueref09_Files.calls k _ _ l0_3 _ _ l1_3 t287 _ ?side1 ?side2 ?side3 ?side4 A6.out).mono ?_);(case side1=>repeat (first|exact (Kd.C_below HR0_3.out HB.out)|(with_reducible refine Kd.C_alloc ?_ _)|(with_reducible refine Kd.C_drewN ?_ _)|(with_reducible refine Kd.C_drew ?_)));(case side2=>exact HC0_3.out);(case side3=>repeat (first|exact (Kd.C_below HR1_3.out HB.out)|(with_reducible refine Kd.C_alloc ?_ _)|(with_reducible refine Kd.C_drewN ?_ _)|(with_reducible refine Kd.C_drew ?_)));(case side4=>exact HC1_3.out);rintro e w' ⟨rfl,⟨nd,rfl⟩⟩))
    go_ret
    exact ⟨by first|rfl|(simp [errW_none]<;>rfl)|(simp [*]<;>rfl),by repeat (first|(with_reducible first|exact HB.out|apply below_alloc|apply pw_below_drewN|apply below_drew1|refine below_set ?_ GE285.out|refine below_set ?_ GE286.out)|exact HB.out)⟩
   ·rw [if_neg c5] at H
    have c5b0:(a0_2 == a1_2)=false:=beq_eq_false_iff_ne.mpr c5
    have c5b1:(a0_2 != a1_2)=true:=bne_iff_ne.mpr c5
    obtain rfl:=Option.some.inj H
    go_enter Tryd.func19,Tryd.ntmps19
    go_wp2_with (first|((with_reducible refine gate_dst (N:=2) rfl ?_);refine box_event ?hg (N:=2) ?hd (cs:=#[.int .i64 a0_0, .int .i64 a0_1, .int .i64 a0_2, .slice A0_3 l0_3.length c0_3, .slice A0_4 l0_4.length c0_4]) (t:=39) ?hr ?_;(case hd=>rfl);(case hg=>rfl);(case hr=>first|(go_simp;done)|(go_simp;rfl));intro gb285 hg w12 hbox hb;have n0_:=Aside0.mk (below_step (by repeat (first|(with_reducible first|exact HB.out|apply below_alloc|apply pw_below_drewN|apply below_drew1)|exact HB.out)) hb);have n1_:=Aside0.mk (hbox);have n2_:=Aside0.mk ((by rw [hg];exact (below_size (by repeat (first|(with_reducible first|exact HB.out|apply below_alloc|apply pw_below_drewN|apply below_drew1)|exact HB.out))):w.heap.size≤gb285));have n3_:=Aside0.mk ((by rw [hg];exact (below_size (by repeat (first|(with_reducible first|exact HB.out|apply below_alloc|apply pw_below_drewN|apply below_drew1)|exact HB.out))):w.heap.size≤gb285));clear HB;have HB:=n0_;have BK285:=n1_;have GW285:=n2_;have GE285:=n3_;clear n0_ n1_ n2_ n3_;clear hb hbox hg)|((with_reducible refine gate_dst (N:=3) rfl ?_);refine box_event ?hg (N:=3) ?hd (cs:=#[.int .i64 a1_0, .int .i64 a1_1, .int .i64 a1_2, .slice A1_3 l1_3.length c1_3, .slice A1_4 l1_4.length c1_4]) (t:=39) ?hr ?_;(case hd=>rfl);(case hg=>rfl);(case hr=>first|(go_simp;done)|(go_simp;rfl));intro gb286 hg w13 hbox hb;have n0_:=Aside0.mk (blk_below (g:=gb285) (o:= .cells #[.int .i64 a0_0, .int .i64 a0_1, .int .i64 a0_2, .slice A0_3 l0_3.length c0_3, .slice A0_4 l0_4.length c0_4] 39 (0,0)) (by (with_reducible repeat (first|refine blk_drewN ?_ _|refine blk_drew ?_|refine blk_alloc ?_ _));exact BK285.out) hb);have n1_:=Aside0.mk (below_step (by repeat (first|(with_reducible first|exact HB.out|apply below_alloc|apply pw_below_drewN|apply below_drew1|refine below_set ?_ GE285.out)|exact HB.out)) hb);have n2_:=Aside0.mk (hbox);have n3_:=Aside0.mk ((by rw [hg];exact (below_size (by repeat (first|(with_reducible first|exact HB.out|apply below_alloc|apply pw_below_drewN|apply below_drew1|refine below_set ?_ GE285.out)|exact HB.out))):w.heap.size≤gb286));have n4_:=Aside0.mk ((by rw [hg];exact (below_size (by repeat (first|(with_reducible first|exact HB.out|apply below_alloc|apply pw_below_drewN|apply below_drew1|refine below_set ?_ GE285.out)|exact HB.out))):w.heap.size≤gb286));have n5_:=Aside0.mk ((by rw [hg];exact Nat.ne_of_lt (blk_lt (g:=gb285) (o:= .cells #[.int .i64 a0_0, .int .i64 a0_1, .int .i64 a0_2, .slice A0_3 l0_3.length c0_3, .slice A0_4 l0_4.length c0_4] 39 (0,0)) (by (with_reducible repeat (first|refine blk_drewN ?_ _|refine blk_drew ?_|refine blk_alloc ?_ _));exact BK285.out)):gb285≠gb286));have n6_:=Aside0.mk ((by rw [hg];exact Nat.ne_of_gt (blk_lt (g:=gb285) (o:= .cells #[.int .i64 a0_0, .int .i64 a0_1, .int .i64 a0_2, .slice A0_3 l0_3.length c0_3, .slice A0_4 l0_4.length c0_4] 39 (0,0)) (by (with_reducible repeat (first|refine blk_drewN ?_ _|refine blk_drew ?_|refine blk_alloc ?_ _));exact BK285.out)):gb286≠gb285));clear BK285;clear HB;have BK285:=n0_;have HB:=n1_;have BK286:=n2_;have GW286:=n3_;have GE286:=n4_;have NB285_286:=n5_;have NB286_285:=n6_;clear n0_ n1_ n2_ n3_ n4_ n5_ n6_;clear hb hbox hg;have hnb14:=NB285_286.out;have hnc14:=NB286_285.out;have hcz15_0:w13.cell? ⟨gb285,0,none⟩=some (.int .i64 a0_0):=(blk_cell BK285.out 0).trans rfl;have hcz15_1:w13.cell? ⟨gb285,1,none⟩=some (.int .i64 a0_1):=(blk_cell BK285.out 1).trans rfl;have hcz15_2:w13.cell? ⟨gb285,2,none⟩=some (.int .i64 a0_2):=(blk_cell BK285.out 2).trans rfl;have hcz15_3:w13.cell? ⟨gb285,3,none⟩=some (.slice A0_3 l0_3.length c0_3):=(blk_cell BK285.out 3).trans rfl;have hcz15_4:w13.cell? ⟨gb285,4,none⟩=some (.slice A0_4 l0_4.length c0_4):=(blk_cell BK285.out 4).trans rfl;have hfz15_0:=blk_frozen BK285.out 0;have hfz15_1:=blk_frozen BK285.out 1;have hfz15_2:=blk_frozen BK285.out 2;have hfz15_3:=blk_frozen BK285.out 3;have hfz15_4:=blk_frozen BK285.out 4;have hcz16_0:w13.cell? ⟨gb286,0,none⟩=some (.int .i64 a1_0):=(blk_cell BK286.out 0).trans rfl;have hcz16_1:w13.cell? ⟨gb286,1,none⟩=some (.int .i64 a1_1):=(blk_cell BK286.out 1).trans rfl;have hcz16_2:w13.cell? ⟨gb286,2,none⟩=some (.int .i64 a1_2):=(blk_cell BK286.out 2).trans rfl;have hcz16_3:w13.cell? ⟨gb286,3,none⟩=some (.slice A1_3 l1_3.length c1_3):=(blk_cell BK286.out 3).trans rfl;have hcz16_4:w13.cell? ⟨gb286,4,none⟩=some (.slice A1_4 l1_4.length c1_4):=(blk_cell BK286.out 4).trans rfl;have hfz16_0:=blk_frozen BK286.out 0;have hfz16_1:=blk_frozen BK286.out 1;have hfz16_2:=blk_frozen BK286.out 2;have hfz16_3:=blk_frozen BK286.out 3;have hfz16_4:=blk_frozen BK286.out 4))
    go_ret
    exact ⟨by first|rfl|(simp [errW_none]<;>rfl)|(simp [*]<;>rfl),by repeat (first|(with_reducible first|exact HB.out|apply below_alloc|apply pw_below_drewN|apply below_drew1|refine below_set ?_ GE285.out|refine below_set ?_ GE286.out)|exact HB.out)⟩
  ·rw [if_neg c4] at H
   have c4b0:(a0_1 == a1_1)=false:=beq_eq_false_iff_ne.mpr c4
   have c4b1:(a0_1 != a1_1)=true:=bne_iff_ne.mpr c4
   obtain rfl:=Option.some.inj H
   go_enter Tryd.func19,Tryd.ntmps19
   go_wp2_with (first|((with_reducible refine gate_dst (N:=2) rfl ?_);refine box_event ?hg (N:=2) ?hd (cs:=#[.int .i64 a0_0, .int .i64 a0_1, .int .i64 a0_2, .slice A0_3 l0_3.length c0_3, .slice A0_4 l0_4.length c0_4]) (t:=39) ?hr ?_;(case hd=>rfl);(case hg=>rfl);(case hr=>first|(go_simp;done)|(go_simp;rfl));intro gb285 hg w17 hbox hb;have n0_:=Aside0.mk (below_step (by repeat (first|(with_reducible first|exact HB.out|apply below_alloc|apply pw_below_drewN|apply below_drew1)|exact HB.out)) hb);have n1_:=Aside0.mk (hbox);have n2_:=Aside0.mk ((by rw [hg];exact (below_size (by repeat (first|(with_reducible first|exact HB.out|apply below_alloc|apply pw_below_drewN|apply below_drew1)|exact HB.out))):w.heap.size≤gb285));have n3_:=Aside0.mk ((by rw [hg];exact (below_size (by repeat (first|(with_reducible first|exact HB.out|apply below_alloc|apply pw_below_drewN|apply below_drew1)|exact HB.out))):w.heap.size≤gb285));clear HB;have HB:=n0_;have BK285:=n1_;have GW285:=n2_;have GE285:=n3_;clear n0_ n1_ n2_ n3_;clear hb hbox hg)|((with_reducible refine gate_dst (N:=3) rfl ?_);refine box_event ?hg (N:=3) ?hd (cs:=#[.int .i64 a1_0, .int .i64 a1_1, .int .i64 a1_2, .slice A1_3 l1_3.length c1_3, .slice A1_4 l1_4.length c1_4]) (t:=39) ?hr ?_;(case hd=>rfl);(case hg=>rfl);(case hr=>first|(go_simp;done)|(go_simp;rfl));intro gb286 hg w18 hbox hb;have n0_:=Aside0.mk (blk_below (g:=gb285) (o:= .cells #[.int .i64 a0_0, .int .i64 a0_1, .int .i64 a0_2, .slice A0_3 l0_3.length c0_3, .slice A0_4 l0_4.length c0_4] 39 (0,0)) (by (with_reducible repeat (first|refine blk_drewN ?_ _|refine blk_drew ?_|refine blk_alloc ?_ _));exact BK285.out) hb);have n1_:=Aside0.mk (below_step (by repeat (first|(with_reducible first|exact HB.out|apply below_alloc|apply pw_below_drewN|apply below_drew1|refine below_set ?_ GE285.out)|exact HB.out)) hb);have n2_:=Aside0.mk (hbox);have n3_:=Aside0.mk ((by rw [hg];exact (below_size (by repeat (first|(with_reducible first|exact HB.out|apply below_alloc|apply pw_below_drewN|apply below_drew1|refine below_set ?_ GE285.out)|exact HB.out))):w.heap.size≤gb286));have n4_:=Aside0.mk ((by rw [hg];exact (below_size (by repeat (first|(with_reducible first|exact HB.out|apply below_alloc|apply pw_below_drewN|apply below_drew1|refine below_set ?_ GE285.out)|exact HB.out))):w.heap.size≤gb286));have n5_:=Aside0.mk ((by rw [hg];exact Nat.ne_of_lt (blk_lt (g:=gb285) (o:= .cells #[.int .i64 a0_0, .int .i64 a0_1, .int .i64 a0_2, .slice A0_3 l0_3.length c0_3, .slice A0_4 l0_4.length c0_4] 39 (0,0)) (by (with_reducible repeat (first|refine blk_drewN ?_ _|refine blk_drew ?_|refine blk_alloc ?_ _));exact BK285.out)):gb285≠gb286));have n6_:=Aside0.mk ((by rw [hg];exact Nat.ne_of_gt (blk_lt (g:=gb285) (o:= .cells #[.int .i64 a0_0, .int .i64 a0_1, .int .i64 a0_2, .slice A0_3 l0_3.length c0_3, .slice A0_4 l0_4.length c0_4] 39 (0,0)) (by (with_reducible repeat (first|refine blk_drewN ?_ _|refine blk_drew ?_|refine blk_alloc ?_ _));exact BK285.out)):gb286≠gb285));clear BK285;clear HB;have BK285:=n0_;have HB:=n1_;have BK286:=n2_;have GW286:=n3_;have GE286:=n4_;have NB285_286:=n5_;have NB286_285:=n6_;clear n0_ n1_ n2_ n3_ n4_ n5_ n6_;clear hb hbox hg;have hnb19:=NB285_286.out;have hnc19:=NB286_285.out;have hcz20_0:w18.cell? ⟨gb285,0,none⟩=some (.int .i64 a0_0):=(blk_cell BK285.out 0).trans rfl;have hcz20_1:w18.cell? ⟨gb285,1,none⟩=some (.int .i64 a0_1):=(blk_cell BK285.out 1).trans rfl;have hcz20_2:w18.cell? ⟨gb285,2,none⟩=some (.int .i64 a0_2):=(blk_cell BK285.out 2).trans rfl;have hcz20_3:w18.cell? ⟨gb285,3,none⟩=some (.slice A0_3 l0_3.length c0_3):=(blk_cell BK285.out 3).trans rfl;have hcz20_4:w18.cell? ⟨gb285,4,none⟩=some (.slice A0_4 l0_4.length c0_4):=(blk_cell BK285.out 4).trans rfl;have hfz20_0:=blk_frozen BK285.out 0;have hfz20_1:=blk_frozen BK285.out 1;have hfz20_2:=blk_frozen BK285.out 2;have hfz20_3:=blk_frozen BK285.out 3;have hfz20_4:=blk_frozen BK285.out 4;have hcz21_0:w18.cell? ⟨gb286,0,none⟩=some (.int .i64 a1_0):=(blk_cell BK286.out 0).trans rfl;have hcz21_1:w18.cell? ⟨gb286,1,none⟩=some (.int .i64 a1_1):=(blk_cell BK286.out 1).trans rfl;have hcz21_2:w18.cell? ⟨gb286,2,none⟩=some (.int .i64 a1_2):=(blk_cell BK286.out 2).trans rfl;have hcz21_3:w18.cell? ⟨gb286,3,none⟩=some (.slice A1_3 l1_3.length c1_3):=(blk_cell BK286.out 3).trans rfl;have hcz21_4:w18.cell? ⟨gb286,4,none⟩=some (.slice A1_4 l1_4.length c1_4):=(blk_cell BK286.out 4).trans rfl;have hfz21_0:=blk_frozen BK286.out 0;have hfz21_1:=blk_frozen BK286.out 1;have hfz21_2:=blk_frozen BK286.out 2;have hfz21_3:=blk_frozen BK286.out 3;have hfz21_4:=blk_frozen BK286.out 4))
   go_ret
   exact ⟨by first|rfl|(simp [errW_none]<;>rfl)|(simp [*]<;>rfl),by repeat (first|(with_reducible first|exact HB.out|apply below_alloc|apply pw_below_drewN|apply below_drew1|refine below_set ?_ GE285.out|refine below_set ?_ GE286.out)|exact HB.out)⟩
 ·rw [if_neg c3] at H
  have c3b0:(a0_0 == a1_0)=false:=beq_eq_false_iff_ne.mpr c3
  have c3b1:(a0_0 != a1_0)=true:=bne_iff_ne.mpr c3
  obtain rfl:=Option.some.inj H
  go_enter Tryd.func19,Tryd.ntmps19
  go_wp2_with (first|((with_reducible refine gate_dst (N:=2) rfl ?_);refine box_event ?hg (N:=2) ?hd (cs:=#[.int .i64 a0_0, .int .i64 a0_1, .int .i64 a0_2, .slice A0_3 l0_3.length c0_3, .slice A0_4 l0_4.length c0_4]) (t:=39) ?hr ?_;(case hd=>rfl);(case hg=>rfl);(case hr=>first|(go_simp;done)|(go_simp;rfl));intro gb285 hg w22 hbox hb;have n0_:=Aside0.mk (below_step (by repeat (first|(with_reducible first|exact HB.out|apply below_alloc|apply pw_below_drewN|apply below_drew1)|exact HB.out)) hb);have n1_:=Aside0.mk (hbox);have n2_:=Aside0.mk ((by rw [hg];exact (below_size (by repeat (first|(with_reducible first|exact HB.out|apply below_alloc|apply pw_below_drewN|apply below_drew1)|exact HB.out))):w.heap.size≤gb285));have n3_:=Aside0.mk ((by rw [hg];exact (below_size (by repeat (first|(with_reducible first|exact HB.out|apply below_alloc|apply pw_below_drewN|apply below_drew1)|exact HB.out))):w.heap.size≤gb285));clear HB;have HB:=n0_;have BK285:=n1_;have GW285:=n2_;have GE285:=n3_;clear n0_ n1_ n2_ n3_;clear hb hbox hg)|((with_reducible refine gate_dst (N:=3) rfl ?_);refine box_event ?hg (N:=3) ?hd (cs:=#[.int .i64 a1_0, .int .i64 a1_1, .int .i64 a1_2, .slice A1_3 l1_3.length c1_3, .slice A1_4 l1_4.length c1_4]) (t:=39) ?hr ?_;(case hd=>rfl);(case hg=>rfl);(case hr=>first|(go_simp;done)|(go_simp;rfl));intro gb286 hg w23 hbox hb;have n0_:=Aside0.mk (blk_below (g:=gb285) (o:= .cells #[.int .i64 a0_0, .int .i64 a0_1, .int .i64 a0_2, .slice A0_3 l0_3.length c0_3, .slice A0_4 l0_4.length c0_4] 39 (0,0)) (by (with_reducible repeat (first|refine blk_drewN ?_ _|refine blk_drew ?_|refine blk_alloc ?_ _));exact BK285.out) hb);have n1_:=Aside0.mk (below_step (by repeat (first|(with_reducible first|exact HB.out|apply below_alloc|apply pw_below_drewN|apply below_drew1|refine below_set ?_ GE285.out)|exact HB.out)) hb);have n2_:=Aside0.mk (hbox);have n3_:=Aside0.mk ((by rw [hg];exact (below_size (by repeat (first|(with_reducible first|exact HB.out|apply below_alloc|apply pw_below_drewN|apply below_drew1|refine below_set ?_ GE285.out)|exact HB.out))):w.heap.size≤gb286));have n4_:=Aside0.mk ((by rw [hg];exact (below_size (by repeat (first|(with_reducible first|exact HB.out|apply below_alloc|apply pw_below_drewN|apply below_drew1|refine below_set ?_ GE285.out)|exact HB.out))):w.heap.size≤gb286));have n5_:=Aside0.mk ((by rw [hg];exact Nat.ne_of_lt (blk_lt (g:=gb285) (o:= .cells #[.int .i64 a0_0, .int .i64 a0_1, .int .i64 a0_2, .slice A0_3 l0_3.length c0_3, .slice A0_4 l0_4.length c0_4] 39 (0,0)) (by (with_reducible repeat (first|refine blk_drewN ?_ _|refine blk_drew ?_|refine blk_alloc ?_ _));exact BK285.out)):gb285≠gb286));have n6_:=Aside0.mk ((by rw [hg];exact Nat.ne_of_gt (blk_lt (g:=gb285) (o:= .cells #[.int .i64 a0_0, .int .i64 a0_1, .int .i64 a0_2, .slice A0_3 l0_3.length c0_3, .slice A0_4 l0_4.length c0_4] 39 (0,0)) (by (with_reducible repeat (first|refine blk_drewN ?_ _|refine blk_drew ?_|refine blk_alloc ?_ _));exact BK285.out)):gb286≠gb285));clear BK285;clear HB;have BK285:=n0_;have HB:=n1_;have BK286:=n2_;have GW286:=n3_;have GE286:=n4_;have NB285_286:=n5_;have NB286_285:=n6_;clear n0_ n1_ n2_ n3_ n4_ n5_ n6_;clear hb hbox hg;have hnb24:=NB285_286.out;have hnc24:=NB286_285.out;have hcz25_0:w23.cell? ⟨gb285,0,none⟩=some (.int .i64 a0_0):=(blk_cell BK285.out 0).trans rfl;have hcz25_1:w23.cell? ⟨gb285,1,none⟩=some (.int .i64 a0_1):=(blk_cell BK285.out 1).trans rfl;have hcz25_2:w23.cell? ⟨gb285,2,none⟩=some (.int .i64 a0_2):=(blk_cell BK285.out 2).trans rfl;have hcz25_3:w23.cell? ⟨gb285,3,none⟩=some (.slice A0_3 l0_3.length c0_3):=(blk_cell BK285.out 3).trans rfl;have hcz25_4:w23.cell? ⟨gb285,4,none⟩=some (.slice A0_4 l0_4.length c0_4):=(blk_cell BK285.out 4).trans rfl;have hfz25_0:=blk_frozen BK285.out 0;have hfz25_1:=blk_frozen BK285.out 1;have hfz25_2:=blk_frozen BK285.out 2;have hfz25_3:=blk_frozen BK285.out 3;have hfz25_4:=blk_frozen BK285.out 4;have hcz26_0:w23.cell? ⟨gb286,0,none⟩=some (.int .i64 a1_0):=(blk_cell BK286.out 0).trans rfl;have hcz26_1:w23.cell? ⟨gb286,1,none⟩=some (.int .i64 a1_1):=(blk_cell BK286.out 1).trans rfl;have hcz26_2:w23.cell? ⟨gb286,2,none⟩=some (.int .i64 a1_2):=(blk_cell BK286.out 2).trans rfl;have hcz26_3:w23.cell? ⟨gb286,3,none⟩=some (.slice A1_3 l1_3.length c1_3):=(blk_cell BK286.out 3).trans rfl;have hcz26_4:w23.cell? ⟨gb286,4,none⟩=some (.slice A1_4 l1_4.length c1_4):=(blk_cell BK286.out 4).trans rfl;have hfz26_0:=blk_frozen BK286.out 0;have hfz26_1:=blk_frozen BK286.out 1;have hfz26_2:=blk_frozen BK286.out 2;have hfz26_3:=blk_frozen BK286.out 3;have hfz26_4:=blk_frozen BK286.out 4))
  go_ret
  exact ⟨by first|rfl|(simp [errW_none]<;>rfl)|(simp [*]<;>rfl),by repeat (first|(with_reducible first|exact HB.out|apply below_alloc|apply pw_below_drewN|apply below_drew1|refine below_set ?_ GE285.out|refine below_set ?_ GE286.out)|exact HB.out)⟩
end Go.Proofs.YthejnffhfmdpnaaDoor.Q

end

section
namespace Go.Proofs.YthejnffhfmdpnaaDoor.Spec
set_option linter.unusedVariables false
open Go.RowKit Go.Proofs.YthejnffhfmdpnaaDoor.Q Go.Proofs.YthejnffhfmdpnaaDoorW.PrintWords Go.Proofs.YthejnffhfmdpnaaDoorW.PrintLast Go.Proofs.YthejnffhfmdpnaaDoorW.PrintMore
abbrev DoV:=Int × List ByteArray × Int × Int × Int × List S66 × List ByteArray
def restoreP (fl:Int) (tr:List ByteArray) (g:Int):Int × Int × Int × List S66 × List ByteArray:=
 if 0≤g∧g < fl then (18,0,0,[],[]) else if g < 0∨g≥(tr.length:Int) then (8,0,0,[],[]) else (0,g,fl,(treeP (rdOf ByteArray.empty tr g)).1,[])
theorem codeRestore (k:Nat) (fl:Int) (tr:List ByteArray) (g:Int) (hk:4001≤k):speech_restore.f k fl tr g=some (restoreP fl tr g):=by
 obtain ⟨k,rfl⟩: ∃m,k=m+1:=⟨k - 1,by omega⟩
 have hj:speech_restore.f (k+1) fl tr g=speech_restore.j0 (k+1) g (decide (0≤g∧g < fl)) fl tr:=by
  unfold speech_restore.f
  by_cases h:g≥0
  ·rw [if_pos h];congr 1;apply decide_eq_decide.mpr;omega
  ·rw [if_neg h,decide_eq_false (by omega)]
 rw [hj,speech_restore.j0]
 unfold restoreP
 by_cases h:0≤g∧g < fl
 ·rw [if_pos (decide_eq_true h),if_pos h]
 ·rw [if_neg (fun e=>h (of_decide_eq_true e)),if_neg h]
  by_cases h1:g < 0
  ·rw [if_pos h1,if_pos (.inl h1)]
  ·rw [if_neg h1]
   by_cases h2:g≥(tr.length:Int)
   ·rw [if_pos h2,if_pos (.inr h2)]
   ·rw [if_neg h2,if_pos (by omega),if_pos (by omega),codeTree k _ (by omega),Option.bind_some,if_neg (by omega)]
theorem refHas (k:Nat) (fl:Int) (tr:List ByteArray) (g:Int) (hk:5001≤k):barquelaw22_has.f k fl tr g=some (restoreP fl tr g):=by
 obtain ⟨k,rfl⟩: ∃m,k=m+1:=⟨k - 1,by omega⟩
 have hj:barquelaw22_has.f (k+1) fl tr g=barquelaw22_has.j0 (k+1) g (decide (0≤g∧g < fl)) fl tr:=by
  unfold barquelaw22_has.f
  by_cases h:g≥0
  ·rw [if_pos h];congr 1;apply decide_eq_decide.mpr;omega
  ·rw [if_neg h,decide_eq_false (by omega)]
 rw [hj,barquelaw22_has.j0]
 unfold restoreP
 by_cases h:0≤g∧g < fl
 ·rw [if_pos (decide_eq_true h),if_pos h]
 ·rw [if_neg (fun e=>h (of_decide_eq_true e)),if_neg h]
  by_cases h1:g < 0
  ·rw [if_pos h1,if_pos (.inl h1)]
  ·rw [if_neg h1]
   by_cases h2:g≥(tr.length:Int)
   ·rw [if_pos h2,if_pos (.inr h2)]
   ·rw [if_neg h2,if_pos (by omega),if_pos (by omega),refTree k _ (by omega),Option.bind_some,if_neg (by omega)]
def doP (fl:Int) (tr:List ByteArray) (kind gen:Int) (files:List S66):DoV:=
 if kind=1 then (if (ofP files).2=0 then (if 32≤wrap64 ((tr.length:Int) - fl) then (fl,tr,7,0,0,[],[]) else (fl,tr++[(ofP files).1],0,(tr.length:Int),fl,[],[])) else (fl,tr,(ofP files).2,0,0,[],[]))
 else if kind=2 then (fl,tr,restoreP fl tr (wrap64 ((tr.length:Int) - 1)))
 else if kind=3 then (if gen < 0 then (fl,tr,2,0,0,[],[]) else (fl,tr,restoreP fl tr gen))
 else if kind=4 then (fl,tr,0,(tr.length:Int),fl,[],[])
 else if kind=6 then (fl,tr,0,(tr.length:Int),fl,[],[])
 else if kind=5 then (if gen < 0 then (fl,tr,2,0,0,[],[]) else if gen≤fl then (fl,tr,0,(tr.length:Int),fl,[],[]) else if (tr.length:Int)≤gen then (fl,tr,2,0,0,[],[]) else (gen,tr,0,(tr.length:Int),gen,[],[]))
 else (fl,tr,1,0,0,[],[])
theorem codeDo (k:Nat) (fl:Int) (tr:List ByteArray) (kind gen:Int) (files:List S66) (hf:files.length≤1000) (ht:tr.length < 1000000) (hk:6000≤k):speech_Do.f k fl tr kind gen files=some (doP fl tr kind gen files):=by
 unfold speech_Do.f doP
 rw [codeOf k files (by omega) (by omega),codeRestore k fl tr _ (by omega),codeRestore k fl tr _ (by omega)]
 simp only [Option.bind_some]
 rw [if_pos (show tr.length < 8796093022207 by omega)]
 repeat' split
 all_goals rfl
theorem refDo (k:Nat) (fl:Int) (tr:List ByteArray) (kind gen:Int) (files:List S66) (hf:files.length≤1000) (ht:tr.length < 1000000) (hk:6000≤k):barquelaw22_do.f k fl tr kind gen files=some (doP fl tr kind gen files):=by
 unfold barquelaw22_do.f doP
 rw [refOf k files (by omega) (by omega),refHas k fl tr _ (by omega),refHas k fl tr _ (by omega)]
 simp only [Option.bind_some]
 rw [if_pos (show tr.length < 8796093022207 by omega)]
 repeat' split
 all_goals rfl
def cutP (x:S66):S66:=if (x.f2.size:Int) > 200 then ⟨x.f0,x.f1,x.f2.extract 0 200⟩ else x
def fewP (l:List S66):List S66:=(l.take 8).map cutP
theorem refFew_l0 (a b:Int) (l:List S66) (n:Nat): ∀(k i:Nat),i+n=min l.length 8→2*n+2≤k→barquelaw22_few.l0 k ((l.take i).map cutP) (i:Int) a b l=some (a,b,fewP l):=by
 induction n with
 |zero=>
  intro k i hi hk
  obtain ⟨k,rfl⟩: ∃m,k=m+2:=⟨k - 2,by omega⟩
  have hj:barquelaw22_few.l0 (k+2) ((l.take i).map cutP) (i:Int) a b l=barquelaw22_few.j1 (k+1) ((l.take i).map cutP) (i:Int) false a b l:=by
   rw [barquelaw22_few.l0]
   by_cases h:i < l.length
   ·rw [if_pos (by omega),decide_eq_false (by omega)]
   ·rw [if_neg (by omega)]
  rw [hj,barquelaw22_few.j1,if_neg (by decide)]
  unfold fewP
  by_cases h:l.length≤8
  ·rw [List.take_of_length_le (show l.length≤i by omega),List.take_of_length_le h]
  ·rw [show i=8 by omega]
 |succ n ih=>
  intro k i hi hk
  obtain ⟨k,rfl⟩: ∃m,k=m+2:=⟨k - 2,by omega⟩
  have hil:i < l.length:=by omega
  have e:(l.take (i+1)).map cutP=(l.take i).map cutP++[cutP l[i]]:=by
   rw [List.take_succ_eq_append_getElem hil,List.map_append]
   rfl
  have hlen:((l.take i).map cutP).length < 3518437208883:=by rw [List.length_map,List.length_take];omega
  rw [barquelaw22_few.l0,if_pos (by omega),decide_eq_true (by omega),barquelaw22_few.j1,if_pos rfl,if_pos (by omega),if_pos (by omega),rd66_at l i hil,w64 (by omega) (by omega),show (i:Int)+1=((i+1:Nat):Int) by omega]
  by_cases h:(l[i].f2.size:Int) > 200
  ·rw [if_pos h,if_pos (by omega),if_pos (by omega),if_pos hlen]
   rw [show [(⟨l[i].f0,l[i].f1,l[i].f2.extract 0 200⟩:S66)]= [cutP l[i]] by unfold cutP;rw [if_pos h], ← e]
   exact ih k (i+1) (by omega) (by omega)
  ·rw [if_neg h,if_pos hlen]
   rw [show [(⟨l[i].f0,l[i].f1,l[i].f2⟩:S66)]= [cutP l[i]] by unfold cutP;rw [if_neg h], ← e]
   exact ih k (i+1) (by omega) (by omega)
theorem refFew (k:Nat) (a b:Int) (l:List S66) (hk:20≤k):barquelaw22_few.f k a b l=some (a,b,fewP l):=by
 unfold barquelaw22_few.f
 exact refFew_l0 a b l (min l.length 8) k 0 (by omega) (by omega)
theorem fewP_len (l:List S66):(fewP l).length≤8:=by
 unfold fewP
 rw [List.length_map,List.length_take]
 omega
theorem files_l0 (l:List S66) (hl:l.length < 1000000) (n:Nat): ∀(k i:Nat),i+n=l.length→n+1≤k→barqueref09_Files.l0 k l l (i:Int)=some true:=by
 induction n with
 |zero=>
  intro k i hi hk
  obtain ⟨k,rfl⟩: ∃m,k=m+1:=⟨k - 1,by omega⟩
  rw [barqueref09_Files.l0,if_neg (by omega)]
 |succ n ih=>
  intro k i hi hk
  obtain ⟨k,rfl⟩: ∃m,k=m+1:=⟨k - 1,by omega⟩
  rw [barqueref09_Files.l0,if_pos (by omega),if_pos (by omega),if_pos (by omega),if_neg (by simp),w64 (by omega) (by omega),show (i:Int)+1=((i+1:Nat):Int) by omega]
  exact ih k (i+1) (by omega) (by omega)
theorem answers_same (k:Nat) (e g f:Int) (l:List S66) (m1 m2:List ByteArray) (hl:l.length < 1000000) (hk:l.length+1≤k):barquelaw22_answers.f k e g f l m1 e g f l m2=some true:=by
 unfold barquelaw22_answers.f barqueref09_Files.f
 rw [if_pos rfl,if_pos rfl,if_pos rfl,if_pos rfl]
 have:=files_l0 l hl l.length k 0 (by omega) hk
 rw [show ((0:Nat):Int)=0 from rfl] at this
 rw [this]
 rfl
theorem gatherP_len (s:ByteArray): ∀(h:List (S66 × Int)) (p:Nat),(gatherP s h p).1.length≤h.length
 | [],p=>by unfold gatherP;split<;>simp
 |x::t,p=>by
  have:=gatherP_len s t (p+x.2.toNat)
  unfold gatherP
  split
  ·simp
  ·split
   ·rw [List.length_cons,List.length_cons];omega
   ·simp
theorem treeP_len (s:ByteArray):(treeP s).1.length≤256:=by
 unfold treeP
 split
 ·simp
 ·split
  ·exact Nat.le_trans (gatherP_len _ _ _) (toldP_len s)
  ·simp
theorem restoreP_len (fl:Int) (tr:List ByteArray) (g:Int):(restoreP fl tr g).2.2.2.1.length≤256∧(restoreP fl tr g).2.2.2.2= []:=by
 unfold restoreP
 split
 ·simp
 ·split
  ·simp
  ·exact ⟨treeP_len _,rfl⟩
theorem doP_len (fl:Int) (tr:List ByteArray) (kind gen:Int) (files:List S66):(doP fl tr kind gen files).2.2.2.2.2.1.length≤256∧(doP fl tr kind gen files).2.2.2.2.2.2= []∧(doP fl tr kind gen files).2.1.length≤tr.length+1:=by
 unfold doP
 have h1:=restoreP_len fl tr (wrap64 ((tr.length:Int) - 1))
 have h2:=restoreP_len fl tr gen
 repeat' split
 all_goals first|exact ⟨h1.1,h1.2,Nat.le_succ _⟩|exact ⟨h2.1,h2.2,Nat.le_succ _⟩|simp
end Go.Proofs.YthejnffhfmdpnaaDoor.Spec

end

section
namespace Go.Proofs.YthejnffhfmdpnaaDoor.Q
open Go.RowKit Go.Proofs.YthejnffhfmdpnaaDoorW.PrintWords Go.Proofs.YthejnffhfmdpnaaDoorW.PrintLast Go.Proofs.YthejnffhfmdpnaaDoorW.PrintMore
attribute [local go_sem] min2_int min_two
set_option linter.unusedVariables false
set_option linter.unusedSimpArgs false
def speech_Open.f (a0:Int):Option (Bool):=if a0=17 then (some true) else (if a0=16 then (some true) else (some (a0 == 7)))
set_option maxHeartbeats 8000000 in
set_option maxRecDepth 100000 in
theorem speech_Open.calls (a0:Int) (r:Bool) (w:World) (h:speech_Open.f a0=some r):
  Calls Tryd.prog 55 #[.int .i64 a0] w fun e w'=>e= .returned (.bool r)∧Drawn0 w w':=by
 have H:(if a0=17 then (some true) else (if a0=16 then (some true) else (some (a0 == 7))))=some r:=h
 clear h
 by_cases c2:a0=17
 ·rw [if_pos c2] at H
  have c2b0:(a0 == 17)=true:=beq_iff_eq.mpr c2
  have c2b1:(a0 != 17)=false:=bne_eq_false_iff_eq.mpr c2
  clear c2
  obtain rfl:=Option.some.inj H
  go_enter Tryd.func55,Tryd.ntmps55
  go_wp2
  go_ret
  exact ⟨by first|rfl|(simp;done)|(simp [*];done),by repeat (first|exact Drawn0.refl _|apply Drawn0.step)⟩
 ·rw [if_neg c2] at H
  have c2b0:(a0 == 17)=false:=beq_eq_false_iff_ne.mpr c2
  have c2b1:(a0 != 17)=true:=bne_iff_ne.mpr c2
  by_cases c3:a0=16
  ·rw [if_pos c3] at H
   have c3b0:(a0 == 16)=true:=beq_iff_eq.mpr c3
   have c3b1:(a0 != 16)=false:=bne_eq_false_iff_eq.mpr c3
   clear c3
   obtain rfl:=Option.some.inj H
   go_enter Tryd.func55,Tryd.ntmps55
   go_wp2
   go_ret
   exact ⟨by first|rfl|(simp;done)|(simp [*];done),by repeat (first|exact Drawn0.refl _|apply Drawn0.step)⟩
  ·rw [if_neg c3] at H
   have c3b0:(a0 == 16)=false:=beq_eq_false_iff_ne.mpr c3
   have c3b1:(a0 != 16)=true:=bne_iff_ne.mpr c3
   obtain rfl:=Option.some.inj H
   go_enter Tryd.func55,Tryd.ntmps55
   go_wp2
   go_ret
   exact ⟨by first|rfl|(simp;done)|(simp [*];done),by repeat (first|exact Drawn0.refl _|apply Drawn0.step)⟩
end Go.Proofs.YthejnffhfmdpnaaDoor.Q

end

section
namespace Go.Proofs.YthejnffhfmdpnaaDoor.Q
open Go.RowKit Go.Proofs.YthejnffhfmdpnaaDoorW.PrintWords Go.Proofs.YthejnffhfmdpnaaDoorW.PrintLast Go.Proofs.YthejnffhfmdpnaaDoorW.PrintMore
set_option linter.unusedVariables false
set_option linter.unusedSimpArgs false
def Fst (g:Nat) (A0:Option Addr) (c0:Nat) (l:List S45) (A1:Option Addr) (c1:Nat) (dn:List Bool) (left:Int) (v3:Value) (W:World):Prop:=
 W.heap[g]? =some (.cells #[.slice A0 l.length c0, .slice A1 dn.length c1, .int .i64 left,v3] 76 (0,0))∧Kd.C k45 W A0 l.length l∧l.length≤c0∧Kd.C Kd.bool W A1 dn.length dn∧dn.length≤c1
theorem Fst.below {g:Nat} {A0:Option Addr} {c0:Nat} {l:List S45} {A1:Option Addr} {c1:Nat} {dn:List Bool} {left:Int} {v3:Value} {W W1:World} (h:Fst g A0 c0 l A1 c1 dn left v3 W) (hb:Below W.heap.size W W1):Fst g A0 c0 l A1 c1 dn left v3 W1:=
 ⟨blk_below h.1 hb,Kd.C_below h.2.1 hb,h.2.2.1,Kd.C_below h.2.2.2.1 hb,h.2.2.2.2⟩
theorem Fst.cells {g:Nat} {A0:Option Addr} {c0:Nat} {l:List S45} {A1:Option Addr} {c1:Nat} {dn:List Bool} {left:Int} {v3:Value} {W:World} (h:Fst g A0 c0 l A1 c1 dn left v3 W):
  W.cell? ⟨g,0,none⟩=some (.slice A0 l.length c0)∧W.cell? ⟨g,1,none⟩=some (.slice A1 dn.length c1)∧W.cell? ⟨g,2,none⟩=some (.int .i64 left)∧W.cell? ⟨g,3,none⟩=some v3:=
 ⟨(blk_cell h.1 0).trans rfl,(blk_cell h.1 1).trans rfl,(blk_cell h.1 2).trans rfl,(blk_cell h.1 3).trans rfl⟩
def openB (e:Int):Bool:=e == 17 || (e == 16 || e == 7)
def idleB (x:S45):Bool:=x.f1 == 0 || openB x.f3.f0
theorem open_f (e:Int):speech_Open.f e=some (openB e):=by
 unfold speech_Open.f openB
 by_cases h1:e=17
 ·simp [h1]
 ·rw [if_neg h1,beq_eq_false_iff_ne.mpr h1,Bool.false_or]
  by_cases h2:e=16
  ·simp [h2]
  ·rw [if_neg h2,beq_eq_false_iff_ne.mpr h2,Bool.false_or]
set_option maxHeartbeats 8000000 in
set_option maxRecDepth 100000 in
theorem idle_calls (g:Nat) (A0:Option Addr) (c0:Nat) (l:List S45) (A1:Option Addr) (c1:Nat) (dn:List Bool) (left:Int) (v3:Value) (w:World) (hF:Fst g A0 c0 l A1 c1 dn left v3 w) (i:Nat) (hi:i < l.length):
  Calls Tryd.prog 39 #[.pointer (some ⟨g,0,none⟩), .int .i64 i] w fun e w'=>e= .returned (.bool (idleB (rd_T45 l i)))∧Below w.heap.size w w':=by
 obtain ⟨z0,z1,z2,z3⟩:=hF.cells
 obtain ⟨ad,A4,c4,A8,c8,A9,c9,ead,y0,y1,y2,y3,y4,y5,y6,y7,y8,y9, -⟩:=at_T45 hF.2.1 (i:Int) (by omega) (by omega)
 cases ead
 rw [Int.toNat_natCast] at y0 y1 y2 y3 y4 y5 y6 y7 y8 y9
 have hlm:=hF.2.1.2.1
 have p200:=eq_true (show (0:Int)≤(i:Int) by omega)
 have q200:=eq_true (show (i:Int) < (l.length:Int) by omega)
 clear hF
 generalize rd_T45 l (i:Int)=x at y0 y1 y2 y3 y4 y5 y6 y7 y8 y9 ⊢
 unfold idleB
 by_cases h0:x.f1=0
 ·have h0b:(x.f1 == 0)=true:=beq_iff_eq.mpr h0
  rw [h0b]
  clear h0
  go_enter Tryd.func39,Tryd.ntmps39
  go_wp2
  go_ret
  exact ⟨rfl,by repeat (first|exact Below.refl _ _|apply below_alloc)⟩
 ·have h0b:(x.f1 == 0)=false:=beq_eq_false_iff_ne.mpr h0
  rw [h0b,Bool.false_or]
  clear h0
  go_enter Tryd.func39,Tryd.ntmps39
  go_wp2_with (first|(go_at_call 55;(with_reducible refine (speech_Open.calls x.f3.f0 (openB x.f3.f0) _ (open_f _)).mono ?_);rintro e w1 ⟨rfl,hd⟩;obtain ⟨n,rfl⟩:=hd))
  go_ret
  exact ⟨rfl,by repeat (first|exact Below.refl _ _|apply below_alloc|apply pw_below_drewN)⟩
def doneB (l:List S45) (dn:List Bool) (i:Nat):Bool:=rdOf false dn (i:Int) || idleB (rd_T45 l (i:Int))
def overB (l:List S45) (dn:List Bool):Bool:=(List.range l.length).all (doneB l dn)
theorem overB_no {l:List S45} {dn:List Bool} {i:Nat} (hi:i < l.length) (h:doneB l dn i=false):overB l dn=false:=by
 unfold overB
 rw [← Bool.not_eq_true,List.all_eq_true]
 intro hall
 have:=hall i (List.mem_range.mpr hi)
 rw [h] at this
 exact absurd this (by decide)
theorem overB_yes {l:List S45} {dn:List Bool} (h: ∀i,i < l.length→doneB l dn i=true):overB l dn=true:=by
 unfold overB
 rw [List.all_eq_true]
 exact fun i hi=>h i (List.mem_range.mp hi)
set_option maxHeartbeats 8000000 in
set_option maxRecDepth 100000 in
theorem over_calls (g:Nat) (A0:Option Addr) (c0:Nat) (l:List S45) (A1:Option Addr) (c1:Nat) (dn:List Bool) (left:Int) (v3:Value) (w:World) (hF:Fst g A0 c0 l A1 c1 dn left v3 w) (hd:dn.length=l.length):
  Calls Tryd.prog 41 #[.pointer (some ⟨g,0,none⟩)] w fun e w'=>e= .returned (.bool (overB l dn))∧Below w.heap.size w w':=by
 have HF:=Aside0.mk hF
 have HD:=Aside0.mk hd
 have hlm:=hF.2.1.2.1
 obtain ⟨z0,z1,z2,z3⟩:=hF.cells
 clear hF hd
 go_enter Tryd.func41,Tryd.ntmps41
 go_wp2
 clear z0 z1 z2 z3
 go_loopg [9] (l.length+1) (fun gq v9 wr=> ∃i:Nat,v9= .int .i64 i∧Aside0 (i≤l.length∧gq+i=l.length+1)∧Aside0 (∀j,j < i→doneB l dn j=true)∧Aside0 (Fst g A0 c0 l A1 c1 dn left v3 wr∧Below w.heap.size w wr))
 case atStart=>exact ⟨0,rfl,⟨by omega⟩,⟨fun j hj=>absurd hj (Nat.not_lt_zero _)⟩,⟨HF.out,Below.refl _ _⟩⟩
 case round=>
  clear HF
  obtain ⟨i,rfl,HG,HA,HS⟩:=hrel
  by_cases hlt:i < l.length
  ·have ltb:decide ((i:Int) < (l.length:Int))=true:=decide_eq_true (by omega)
   have ltc:decide (i < l.length)=true:=decide_eq_true hlt
   obtain ⟨z0,z1,z2,z3⟩:=HS.out.1.cells
   have hdm:=HD.out
   obtain ⟨ad,ead,y0⟩:=Kd.at_bool HS.out.1.2.2.2.1 (i:Int) (by omega) (by omega)
   cases ead
   rw [Int.toNat_natCast] at y0
   have p200:=eq_true (show (0:Int)≤(i:Int) by omega)
   have q200:=eq_true (show (i:Int) < (dn.length:Int) by omega)
   clear hdm
   by_cases h1:rdOf false dn (i:Int)=true
   ·rw [h1] at y0
    have HDi:=Aside0.mk (show doneB l dn i=true by unfold doneB;rw [h1];rfl)
    clear h1
    go_wp2
    go_roundg (l.length - i)
    case measure=>have:=HG.out.2;omega
    case rel=>exact ⟨i+1,by go_num,⟨by have:=HG.out;omega⟩,⟨fun j hj=>by
     by_cases hq:j=i
     ·subst hq;exact HDi.out
     ·exact HA.out j (by omega)⟩,HS⟩
   ·have h1:rdOf false dn (i:Int)=false:=by simpa using h1
    rw [h1] at y0
    have HDi:=Aside0.mk (show doneB l dn i=idleB (rd_T45 l (i:Int)) by unfold doneB;rw [h1];rfl)
    clear h1
    have HID:=Aside0.mk (idle_calls g A0 c0 l _ c1 dn left v3 wr HS.out.1 i hlt)
    by_cases h2:idleB (rd_T45 l (i:Int))=true
    ·rw [h2] at HID HDi
     clear h2
     go_wp2_with (first|(go_at_call 39;(with_reducible refine HID.out.mono ?_);rintro e w1 ⟨rfl,hb⟩))
     have HS1:=Aside0.mk (And.intro (HS.out.1.below hb) (below_step HS.out.2 hb))
     clear hb HS
     go_roundg (l.length - i)
     case measure=>have:=HG.out.2;omega
     case rel=>exact ⟨i+1,by go_num,⟨by have:=HG.out;omega⟩,⟨fun j hj=>by
      by_cases hq:j=i
      ·subst hq;exact HDi.out
      ·exact HA.out j (by omega)⟩,HS1⟩
    ·have h2:idleB (rd_T45 l (i:Int))=false:=by simpa using h2
     rw [h2] at HID HDi
     clear h2
     have HO:=Aside0.mk (overB_no hlt HDi.out)
     go_wp2_with (first|(go_at_call 39;(with_reducible refine HID.out.mono ?_);rintro e w1 ⟨rfl,hb⟩))
     go_ret
     exact ⟨by rw [HO.out];rfl,below_step HS.out.2 hb⟩
  ·have ltb:decide ((i:Int) < (l.length:Int))=false:=decide_eq_false (by omega)
   have ltc:decide (i < l.length)=false:=decide_eq_false hlt
   have HO:=Aside0.mk (overB_yes (l:=l) (dn:=dn) (fun j hj=>HA.out j (by omega)))
   go_wp2
   go_ret
   exact ⟨by rw [HO.out];rfl,HS.out.2⟩
end Go.Proofs.YthejnffhfmdpnaaDoor.Q

end
