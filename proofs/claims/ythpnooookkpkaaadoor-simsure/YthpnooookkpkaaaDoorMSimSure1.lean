/- Texts of this session for the claim of SimSure: functions of the program as plain Lean functions, that the machine's calls come to them, and plain facts of these. -/
import Derived.Test.YthpnooookkpkaaaDoorMSimSure0
/- A function of the program as a plain Lean function, and that the machine's call comes to it: written by a program of this session over the kit's print. -/
namespace Go.Proofs.YthpnooookkpkaaaDoor.F
open Go.RowKit Go.Proofs.YthpnooookkpkaaaDoorW.PrintWords Go.Proofs.YthpnooookkpkaaaDoorW.PrintLast Go.Proofs.YthpnooookkpkaaaDoorW.PrintMore
attribute [local go_sem] max2_int min2_int max_two min_two max_three min_three max_four min_four   -- for this text's walks alone
set_option linter.unusedVariables false
set_option linter.unusedSimpArgs false

/-! ### inquestref03_CopyTrace: function 21 -/
def inquestref03_CopyTrace.l0 : Nat→Int→Int→List Int→List (List Int)→Int→List Int→List (List Int)→Option (Int × List Int × (List (List Int)))
 | 0,_,_,_,_,_,_,_ => none
 | k + 1,x4,x102000,x102001,x102002,x104000,x104001,x104002 => if x4 < (x102002.length : Int) then (if 0 ≤ x4 then (if ([] : List Int).length + (rd_L4 x102002 x4).length < 140737488355328 then (if x104002.length < 5864062014805 then (inquestref03_CopyTrace.l0 k (wrap64 (x4 + 1)) x102000 x102001 x102002 x104000 x104001 (x104002 ++ [(([] : List Int) ++ (rd_L4 x102002 x4))])) else (none)) else (none)) else (none)) else (some (x104000,x104001,x104002))
def inquestref03_CopyTrace.f (k : Nat) (a0_0 : Int) (l0_1 : List Int) (l0_2 : List (List Int)) : Option (Int × List Int × (List (List Int))):=if ([] : List Int).length + l0_1.length < 140737488355328 then (inquestref03_CopyTrace.l0 k 0 a0_0 l0_1 l0_2 a0_0 (([] : List Int) ++ l0_1) ([] : List (List Int))) else (none)
def inquestref03_CopyTrace.T7 : Bool × List (List Nat × List Nat):=(true,[([],[]),([0],[0]),([],[]),([],[]),([3],[3]),([],[]),([4,5],[4,5]),([6],[6]),([2,7],[2,7]),([8],[8]),([1,9,8],[1,9]),([0,1,2,3,4,5,6,7,8,9,10],[]),([11,10,10,0,1,2,3,4,5,6,7,8,9,10],[10,11])])
def inquestref03_CopyTrace.B7 : List Nat:=[0,1,0,0,8,0,56,120,252,508,1023,2047,4095]
theorem inquestref03_CopyTrace.tab7 : rtab .any (opsOf Tryd.f21 7) = inquestref03_CopyTrace.T7:=by kernel_rfl
theorem inquestref03_CopyTrace.bits7 : waitsOk inquestref03_CopyTrace.T7.2 inquestref03_CopyTrace.B7 = true:=by kernel_rfl
set_option maxHeartbeats 8000000 in
set_option maxRecDepth 100000 in
theorem inquestref03_CopyTrace.calls (k : Nat) (a0_0 : Int) (A0_1 : Option Addr) (c0_1 : Nat) (l0_1 : List Int) (A0_2 : Option Addr) (c0_2 : Nat) (l0_2 : List (List Int)) (r1 : Int) (r2 : List Int) (r3 : List (List Int)) (w : World) (hr0_1 : Kd.C (Kd.int .u8) w A0_1 l0_1.length l0_1) (hc0_1 : l0_1.length ≤ c0_1) (hr0_2 : Kd.C (Kd.slice 5 (Kd.int .u8)) w A0_2 l0_2.length l0_2) (hc0_2 : l0_2.length ≤ c0_2) (h : inquestref03_CopyTrace.f k a0_0 l0_1 l0_2 = some (r1,r2,r3)) :
  Calls Tryd.prog 21 #[.agg #[.int .i64 a0_0,.slice A0_1 l0_1.length c0_1,.slice A0_2 l0_2.length c0_2]] w fun e w' => ∃ v1_ v2_ : Value,e = .returned (.agg #[.int .i64 r1,v1_,v2_])∧Kd.R (Kd.int .u8) 5 w' w.heap.size (fun _ => True) v1_ r2∧Kd.S (Kd.slice 5 (Kd.int .u8)) 27 w' w.heap.size (fun k_ => some k_ ≠ (v1_ : Value).ownBlock) v2_ r3∧Below w.heap.size w w':=by
 have hu30:=Tryd.underlying30
 have HR0_1:=Aside0.mk hr0_1
 have HC0_1:=Aside0.mk hc0_1
 clear hr0_1 hc0_1
 have HR0_2:=Aside0.mk hr0_2
 have HC0_2:=Aside0.mk hc0_2
 clear hr0_2 hc0_2
 have HB:=Aside0.mk (Below.refl w.heap.size w)
 have H : (if ([] : List Int).length + l0_1.length < 140737488355328 then (inquestref03_CopyTrace.l0 k 0 a0_0 l0_1 l0_2 a0_0 (([] : List Int) ++ l0_1) ([] : List (List Int))) else (none)) = some (r1,r2,r3):=h
 clear h
 by_cases c2 : ([] : List Int).length + l0_1.length < 140737488355328
 ·
  rw [if_pos c2] at H
  have LMc2:=Aside0.mk c2
  clear c2
  obtain ⟨y104,hy104⟩ : ∃ y_ : List Int,y_ = (([] : List Int) ++ l0_1):=⟨_,rfl⟩
  replace H : (inquestref03_CopyTrace.l0 k 0 a0_0 l0_1 l0_2 a0_0 y104 ([] : List (List Int))) = some (r1,r2,r3):=by first|(rw [hy104];with_reducible exact H)|(have H2_:=(Option.bind_some _ _).symm.trans H;rw [hy104];with_reducible exact H2_)|(have H2_:=(Option.bind_some _ _).symm.trans H;with_reducible exact H2_)|with_reducible exact H|(rw [hy104];exact H)|exact H
  have Ny104:=Aside0.mk hy104
  clear hy104
  have H':=Aside0.mk H
  clear H
  go_enter Tryd.func21,Tryd.ntmps21
  go_wp2_with (first|((with_reducible refine gate_dst (N:=1) rfl ?_);refine box_event ?hg (N:=1) ?hd (cs:=#[.int .i64 a0_0,.slice A0_1 l0_1.length c0_1,.slice A0_2 l0_2.length c0_2]) (t:=30) ?hr ?_;(case hd => rfl);(case hg => rfl);(case hr => first|(go_simp;done)|(go_simp;rfl));intro gb101 hg w3 hbox hb;have n0_:=Aside0.mk (below_step (by repeat (first|(with_reducible first|exact HB.out|apply below_alloc|apply pw_below_drewN|apply below_drew1)|exact HB.out)) hb);have n1_:=Aside0.mk (hbox);have n2_:=Aside0.mk ((by rw [hg];exact (below_size (by repeat (first|(with_reducible first|exact HB.out|apply below_alloc|apply pw_below_drewN|apply below_drew1)|exact HB.out))) : w.heap.size ≤ gb101));have n3_:=Aside0.mk ((by rw [hg];exact (below_size (by repeat (first|(with_reducible first|exact HB.out|apply below_alloc|apply pw_below_drewN|apply below_drew1)|exact HB.out))) : w.heap.size ≤ gb101));clear HB;have HB:=n0_;have BK101:=n1_;have GW101:=n2_;have GE101:=n3_;clear n0_ n1_ n2_ n3_;clear hb hbox hg)|((with_reducible refine gate_dst (N:=2) rfl ?_);refine box_event ?hg (N:=2) ?hd (cs:=#[.int .i64 0,.slice none 0 0,.slice none 0 0]) (t:=30) ?hr ?_;(case hd => rfl);(case hg => rfl);(case hr => first|(go_simp;done)|(go_simp;rfl));intro gb102 hg w4 hbox hb;have n0_:=Aside0.mk (blk_below (g:=gb101) (o:=.cells #[.int .i64 a0_0,.slice A0_1 l0_1.length c0_1,.slice A0_2 l0_2.length c0_2] 30 (0,0)) (by (with_reducible repeat (first|refine blk_drewN ?_ _|refine blk_drew ?_|refine blk_alloc ?_ _));exact BK101.out) hb);have n1_:=Aside0.mk (below_step (by repeat (first|(with_reducible first|exact HB.out|apply below_alloc|apply pw_below_drewN|apply below_drew1|refine below_set ?_ GE101.out)|exact HB.out)) hb);have n2_:=Aside0.mk (hbox);have n3_:=Aside0.mk ((by rw [hg];exact (below_size (by repeat (first|(with_reducible first|exact HB.out|apply below_alloc|apply pw_below_drewN|apply below_drew1|refine below_set ?_ GE101.out)|exact HB.out))) : w.heap.size ≤ gb102));have n4_:=Aside0.mk ((by rw [hg];exact (below_size (by repeat (first|(with_reducible first|exact HB.out|apply below_alloc|apply pw_below_drewN|apply below_drew1|refine below_set ?_ GE101.out)|exact HB.out))) : w.heap.size ≤ gb102));have n5_:=Aside0.mk ((by rw [hg];exact Nat.ne_of_lt (blk_lt (g:=gb101) (o:=.cells #[.int .i64 a0_0,.slice A0_1 l0_1.length c0_1,.slice A0_2 l0_2.length c0_2] 30 (0,0)) (by (with_reducible repeat (first|refine blk_drewN ?_ _|refine blk_drew ?_|refine blk_alloc ?_ _));exact BK101.out)) : gb101 ≠ gb102));have n6_:=Aside0.mk ((by rw [hg];exact Nat.ne_of_gt (blk_lt (g:=gb101) (o:=.cells #[.int .i64 a0_0,.slice A0_1 l0_1.length c0_1,.slice A0_2 l0_2.length c0_2] 30 (0,0)) (by (with_reducible repeat (first|refine blk_drewN ?_ _|refine blk_drew ?_|refine blk_alloc ?_ _));exact BK101.out)) : gb102 ≠ gb101));clear BK101;clear HB;have BK101:=n0_;have HB:=n1_;have BK102:=n2_;have GW102:=n3_;have GE102:=n4_;have NB101_102:=n5_;have NB102_101:=n6_;clear n0_ n1_ n2_ n3_ n4_ n5_ n6_;clear hb hbox hg;have hnb5:=NB101_102.out;have hnc5:=NB102_101.out;have hcz6_0 : w4.cell? ⟨gb101,0,none⟩ = some (.int .i64 a0_0):=(blk_cell BK101.out 0).trans rfl;have hcz6_1 : w4.cell? ⟨gb101,1,none⟩ = some (.slice A0_1 l0_1.length c0_1):=(blk_cell BK101.out 1).trans rfl;have hcz6_2 : w4.cell? ⟨gb101,2,none⟩ = some (.slice A0_2 l0_2.length c0_2):=(blk_cell BK101.out 2).trans rfl;have hfz6_0:=blk_frozen BK101.out 0;have hfz6_1:=blk_frozen BK101.out 1;have hfz6_2:=blk_frozen BK101.out 2)|((with_reducible refine gate_dst (N:=3) rfl ?_);refine box_event ?hg (N:=3) ?hd (cs:=#[.int .i64 0,.slice none 0 0,.slice none 0 0]) (t:=30) ?hr ?_;(case hd => rfl);(case hg => rfl);(case hr => first|(go_simp;done)|(go_simp;rfl));intro gb103 hg w7 hbox hb;have n0_:=Aside0.mk (blk_below (g:=gb101) (o:=.cells #[.int .i64 a0_0,.slice A0_1 l0_1.length c0_1,.slice A0_2 l0_2.length c0_2] 30 (0,0)) (by (with_reducible repeat (first|refine blk_drewN ?_ _|refine blk_drew ?_|refine blk_alloc ?_ _));exact BK101.out) hb);have n1_:=Aside0.mk (blk_below (g:=gb102) (o:=.cells #[.int .i64 0,.slice none 0 0,.slice none 0 0] 30 (0,0)) (by (with_reducible repeat (first|refine blk_drewN ?_ _|refine blk_drew ?_|refine blk_alloc ?_ _));exact BK102.out) hb);have n2_:=Aside0.mk (below_step (by repeat (first|(with_reducible first|exact HB.out|apply below_alloc|apply pw_below_drewN|apply below_drew1|refine below_set ?_ GE101.out|refine below_set ?_ GE102.out)|exact HB.out)) hb);have n3_:=Aside0.mk (hbox);have n4_:=Aside0.mk ((by rw [hg];exact (below_size (by repeat (first|(with_reducible first|exact HB.out|apply below_alloc|apply pw_below_drewN|apply below_drew1|refine below_set ?_ GE101.out|refine below_set ?_ GE102.out)|exact HB.out))) : w.heap.size ≤ gb103));have n5_:=Aside0.mk ((by rw [hg];exact (below_size (by repeat (first|(with_reducible first|exact HB.out|apply below_alloc|apply pw_below_drewN|apply below_drew1|refine below_set ?_ GE101.out|refine below_set ?_ GE102.out)|exact HB.out))) : w.heap.size ≤ gb103));have n6_:=Aside0.mk ((by rw [hg];exact Nat.ne_of_lt (blk_lt (g:=gb101) (o:=.cells #[.int .i64 a0_0,.slice A0_1 l0_1.length c0_1,.slice A0_2 l0_2.length c0_2] 30 (0,0)) (by (with_reducible repeat (first|refine blk_drewN ?_ _|refine blk_drew ?_|refine blk_alloc ?_ _));exact BK101.out)) : gb101 ≠ gb103));have n7_:=Aside0.mk ((by rw [hg];exact Nat.ne_of_gt (blk_lt (g:=gb101) (o:=.cells #[.int .i64 a0_0,.slice A0_1 l0_1.length c0_1,.slice A0_2 l0_2.length c0_2] 30 (0,0)) (by (with_reducible repeat (first|refine blk_drewN ?_ _|refine blk_drew ?_|refine blk_alloc ?_ _));exact BK101.out)) : gb103 ≠ gb101));have n8_:=Aside0.mk ((by rw [hg];exact Nat.ne_of_lt (blk_lt (g:=gb102) (o:=.cells #[.int .i64 0,.slice none 0 0,.slice none 0 0] 30 (0,0)) (by (with_reducible repeat (first|refine blk_drewN ?_ _|refine blk_drew ?_|refine blk_alloc ?_ _));exact BK102.out)) : gb102 ≠ gb103));have n9_:=Aside0.mk ((by rw [hg];exact Nat.ne_of_gt (blk_lt (g:=gb102) (o:=.cells #[.int .i64 0,.slice none 0 0,.slice none 0 0] 30 (0,0)) (by (with_reducible repeat (first|refine blk_drewN ?_ _|refine blk_drew ?_|refine blk_alloc ?_ _));exact BK102.out)) : gb103 ≠ gb102));clear BK101;clear BK102;clear HB;have BK101:=n0_;have BK102:=n1_;have HB:=n2_;have BK103:=n3_;have GW103:=n4_;have GE103:=n5_;have NB101_103:=n6_;have NB103_101:=n7_;have NB102_103:=n8_;have NB103_102:=n9_;clear n0_ n1_ n2_ n3_ n4_ n5_ n6_ n7_ n8_ n9_;clear hb hbox hg;have hnb8:=NB103_101.out;have hnc8:=NB101_103.out;have hnb9:=NB103_102.out;have hnc9:=NB102_103.out;have hcz10_0 : w7.cell? ⟨gb103,0,none⟩ = some (.int .i64 0):=(blk_cell BK103.out 0).trans rfl;have hcz10_1 : w7.cell? ⟨gb103,1,none⟩ = some (.slice none 0 0):=(blk_cell BK103.out 1).trans rfl;have hcz10_2 : w7.cell? ⟨gb103,2,none⟩ = some (.slice none 0 0):=(blk_cell BK103.out 2).trans rfl;have hfz10_0:=blk_frozen BK103.out 0;have hfz10_1:=blk_frozen BK103.out 1;have hfz10_2:=blk_frozen BK103.out 2;have hcz11_0 : w7.cell? ⟨gb101,0,none⟩ = some (.int .i64 a0_0):=(blk_cell BK101.out 0).trans rfl;have hcz11_1 : w7.cell? ⟨gb101,1,none⟩ = some (.slice A0_1 l0_1.length c0_1):=(blk_cell BK101.out 1).trans rfl;have hcz11_2 : w7.cell? ⟨gb101,2,none⟩ = some (.slice A0_2 l0_2.length c0_2):=(blk_cell BK101.out 2).trans rfl;have hfz11_0:=blk_frozen BK101.out 0;have hfz11_1:=blk_frozen BK101.out 1;have hfz11_2:=blk_frozen BK101.out 2)|((with_reducible refine gate_builtin (b:=.append) (xs:=#[.tmp 10,.tmp 12]) rfl ?_);at_builtin;refine Kd.R_append_rows (Kd.int .u8) (w0:=w) w.heap.size rfl (.tmp 10) (.tmp 12) 27 5 (.int .u8 0) 1 rfl Tryd.underlying27 info5 rfl (by decide) (by omega) (.slice none 0 0) ([] : List Int) l0_1 _ _ _ (fun _ => True) (fun _ => False) rfl rfl ?aO ?aR (fun _ _ h => h) (fun _ h => h.elim) ?aF ?aB ?aS ?aL ?_;(case aR => exact Kd.C_below HR0_1.out (by repeat (first|(with_reducible first|exact HB.out|apply below_alloc|apply pw_below_drewN|apply below_drew1|refine below_set ?_ GE101.out|refine below_set ?_ GE102.out|refine below_set ?_ GE103.out)|exact HB.out)));(case aB => exact (by repeat (first|(with_reducible first|exact HB.out|apply below_alloc|apply pw_below_drewN|apply below_drew1|refine below_set ?_ GE101.out|refine below_set ?_ GE102.out|refine below_set ?_ GE103.out)|exact HB.out)));(case aF => exact (fun _ _ => trivial));(case aO => exact ((Kd.R_nil _ _ _ _ (fun _ => True))));(case aS => exact (below_size (by repeat (first|(with_reducible first|exact HB.out|apply below_alloc|apply pw_below_drewN|apply below_drew1|refine below_set ?_ GE101.out|refine below_set ?_ GE102.out|refine below_set ?_ GE103.out)|exact HB.out))));(case aL => have:=LMc2.out;omega);intro v105 w12 ho hb hg hat;rw [← Ny104.out] at ho;have n0_:=Aside0.mk (blk_grown (g:=gb101) (o:=.cells #[.int .i64 a0_0,.slice A0_1 l0_1.length c0_1,.slice A0_2 l0_2.length c0_2] 30 (0,0)) (by (with_reducible repeat (first|refine blk_drewN ?_ _|refine blk_drew ?_|refine blk_alloc ?_ _));refine blk_far ?_ NB101_103.out _;(with_reducible repeat (first|refine blk_drewN ?_ _|refine blk_drew ?_|refine blk_alloc ?_ _));refine blk_far ?_ NB101_103.out _;(with_reducible repeat (first|refine blk_drewN ?_ _|refine blk_drew ?_|refine blk_alloc ?_ _));refine blk_far ?_ NB101_103.out _;(with_reducible repeat (first|refine blk_drewN ?_ _|refine blk_drew ?_|refine blk_alloc ?_ _));exact BK101.out) hg (by simp [Value.ownBlock]));have n1_:=Aside0.mk (blk_grown (g:=gb102) (o:=.cells #[.int .i64 0,.slice none 0 0,.slice none 0 0] 30 (0,0)) (by (with_reducible repeat (first|refine blk_drewN ?_ _|refine blk_drew ?_|refine blk_alloc ?_ _));refine blk_far ?_ NB102_103.out _;(with_reducible repeat (first|refine blk_drewN ?_ _|refine blk_drew ?_|refine blk_alloc ?_ _));refine blk_far ?_ NB102_103.out _;(with_reducible repeat (first|refine blk_drewN ?_ _|refine blk_drew ?_|refine blk_alloc ?_ _));refine blk_far ?_ NB102_103.out _;(with_reducible repeat (first|refine blk_drewN ?_ _|refine blk_drew ?_|refine blk_alloc ?_ _));exact BK102.out) hg (by simp [Value.ownBlock]));have n2_:=Aside0.mk (blk_grown (g:=gb103) (o:=.cells #[.int .i64 a0_0,.slice none 0 0,.slice none 0 0] 30 (0,0)) (by (with_reducible repeat (first|refine blk_drewN ?_ _|refine blk_drew ?_|refine blk_alloc ?_ _));refine blk_put (cs:=#[.int .i64 a0_0,.slice none 0 0,.slice none 0 0]) ?_ 2 _ rfl;(with_reducible repeat (first|refine blk_drewN ?_ _|refine blk_drew ?_|refine blk_alloc ?_ _));refine blk_put (cs:=#[.int .i64 a0_0,.slice none 0 0,.slice none 0 0]) ?_ 1 _ rfl;(with_reducible repeat (first|refine blk_drewN ?_ _|refine blk_drew ?_|refine blk_alloc ?_ _));refine blk_put (cs:=#[.int .i64 0,.slice none 0 0,.slice none 0 0]) ?_ 0 _ rfl;(with_reducible repeat (first|refine blk_drewN ?_ _|refine blk_drew ?_|refine blk_alloc ?_ _));exact BK103.out) hg (by simp [Value.ownBlock]));have n3_:=Aside0.mk (hb);have n4_:=Aside0.mk (ho);clear BK101;clear BK102;clear BK103;clear HB;have BK101:=n0_;have BK102:=n1_;have BK103:=n2_;have HB:=n3_;have HO106:=n4_;clear n0_ n1_ n2_ n3_ n4_;clear ho hb hg hat;obtain ⟨Ao13,co13,eo13⟩:=Kd.R_slice HO106.out;subst eo13;have hcz14_0 : w12.cell? ⟨gb103,0,none⟩ = some (.int .i64 a0_0):=(blk_cell BK103.out 0).trans rfl;have hcz14_1 : w12.cell? ⟨gb103,1,none⟩ = some (.slice none 0 0):=(blk_cell BK103.out 1).trans rfl;have hcz14_2 : w12.cell? ⟨gb103,2,none⟩ = some (.slice none 0 0):=(blk_cell BK103.out 2).trans rfl;have hfz14_0:=blk_frozen BK103.out 0;have hfz14_1:=blk_frozen BK103.out 1;have hfz14_2:=blk_frozen BK103.out 2))
  go_loopg [4] k (fun kq v4 w' => ∃ (x4_1 : Int) (x104002_1 : List (List Int)) (u104002 : Value),v4 = .int .i64 x4_1∧Aside0 (inquestref03_CopyTrace.l0 kq x4_1 a0_0 l0_1 l0_2 a0_0 y104 x104002_1 = some (r1,r2,r3))∧Aside0 (kq ≤ k)∧Aside0 (Kd.R (Kd.int .u8) 5 w' w.heap.size (fun _ => True) (.slice Ao13 y104.length co13) y104)∧Aside0 (Kd.S (Kd.slice 5 (Kd.int .u8)) 27 w' w.heap.size (fun k_ => some k_ ≠ ((.slice Ao13 y104.length co13) : Value).ownBlock) u104002 x104002_1)∧Aside0 (w'.heap[gb101]? = some (.cells #[.int .i64 a0_0,(.slice A0_1 l0_1.length c0_1),(.slice A0_2 l0_2.length c0_2)] 30 (0,0)))∧Aside0 (w'.heap[gb102]? = some (.cells #[.int .i64 0,(.slice none 0 0),(.slice none 0 0)] 30 (0,0)))∧Aside0 (w'.heap[gb103]? = some (.cells #[.int .i64 a0_0,(.slice Ao13 y104.length co13),u104002] 30 (0,0)))∧Aside0 (Below w.heap.size w w'))
  case atStart => exact ⟨(0),(([] : List (List Int))),(.slice none 0 0),(by first|rfl|(simp;done)|(simp [*];done)),H',⟨Nat.le_refl _⟩,⟨by (with_reducible repeat (first|apply Kd.R_alloc|apply Kd.R_drewN|apply Kd.R_drew));exact Kd.R_mono (Kd.R_far (p:=⟨gb103,1,none⟩) (Kd.R_types HO106.out BK103.out (by decide)) (fun _ hk => hk.2) (.slice Ao13 y104.length co13)) (fun _ hk => trivial)⟩,⟨by first|exact Kd.S_nil _ _ _ _ _|exact Kd.N_nil _ _ _ _ _|exact Kd.V_nil _ _ _ _ _|exact Kd.Q_nil _ _ _ _ _|exact Kd.R_nil _ _ _ _ _⟩,⟨by (with_reducible repeat (first|refine blk_drewN ?_ _|refine blk_drew ?_|refine blk_alloc ?_ _));refine blk_far ?_ NB101_103.out _;(with_reducible repeat (first|refine blk_drewN ?_ _|refine blk_drew ?_|refine blk_alloc ?_ _));exact BK101.out⟩,⟨by (with_reducible repeat (first|refine blk_drewN ?_ _|refine blk_drew ?_|refine blk_alloc ?_ _));refine blk_far ?_ NB102_103.out _;(with_reducible repeat (first|refine blk_drewN ?_ _|refine blk_drew ?_|refine blk_alloc ?_ _));exact BK102.out⟩,⟨by (with_reducible repeat (first|refine blk_drewN ?_ _|refine blk_drew ?_|refine blk_alloc ?_ _));refine blk_put (cs:=#[.int .i64 a0_0,.slice none 0 0,.slice none 0 0]) ?_ 1 _ rfl;(with_reducible repeat (first|refine blk_drewN ?_ _|refine blk_drew ?_|refine blk_alloc ?_ _));exact BK103.out⟩,⟨by repeat (first|(with_reducible first|exact HB.out|apply below_alloc|apply pw_below_drewN|apply below_drew1|refine below_set ?_ GE101.out|refine below_set ?_ GE102.out|refine below_set ?_ GE103.out)|exact HB.out)⟩⟩
  case round =>
   clear H'
   try clear c2
   try clear p2
   try clear c5
   try clear c8
   try clear c9
   try clear hcz10_0
   try clear hcz10_1
   try clear hcz10_2
   try clear hcz11_0
   try clear hcz11_1
   try clear hcz11_2
   try clear hcz14_0
   try clear hcz14_1
   try clear hcz14_2
   try clear hcz6_0
   try clear hcz6_1
   try clear hcz6_2
   try clear hfz10_0
   try clear hfz10_1
   try clear hfz10_2
   try clear hfz11_0
   try clear hfz11_1
   try clear hfz11_2
   try clear hfz14_0
   try clear hfz14_1
   try clear hfz14_2
   try clear hfz6_0
   try clear hfz6_1
   try clear hfz6_2
   obtain ⟨x4_1,x104002_1,u104002,rfl,HA,HK1,HO_104001,HO_104002,BK101,BK102,BK103,HB⟩:=hrel
   cases gk with
   | zero => exact absurd HA.out (by simp [inquestref03_CopyTrace.l0])
   | succ k1 =>
    have H:=HA.out
    clear HA
    simp only [inquestref03_CopyTrace.l0] at H
    by_cases c15 : x4_1 < (l0_2.length : Int)
    ·
     rw [if_pos c15] at H
     have c15b0 : decide (x4_1 < (l0_2.length : Int)) = true:=decide_eq_true c15
     clear c15
     by_cases c16 : 0 ≤ x4_1
     ·
      rw [if_pos c16] at H
      have c16b0 : decide (0 ≤ x4_1) = true:=decide_eq_true c16
      clear c16
      by_cases c17 : ([] : List Int).length + (rd_L4 l0_2 x4_1).length < 140737488355328
      ·
       rw [if_pos c17] at H
       have LMc17:=Aside0.mk c17
       clear c17
       obtain ⟨y108,hy108⟩ : ∃ y_ : List Int,y_ = (([] : List Int) ++ (rd_L4 l0_2 x4_1)):=⟨_,rfl⟩
       replace H : (if x104002_1.length < 5864062014805 then (inquestref03_CopyTrace.l0 k1 (wrap64 (x4_1 + 1)) a0_0 l0_1 l0_2 a0_0 y104 (x104002_1 ++ [y108])) else (none)) = some (r1,r2,r3):=by first|(rw [hy108];with_reducible exact H)|(have H2_:=(Option.bind_some _ _).symm.trans H;rw [hy108];with_reducible exact H2_)|(have H2_:=(Option.bind_some _ _).symm.trans H;with_reducible exact H2_)|with_reducible exact H|(rw [hy108];exact H)|exact H
       have Ny108:=Aside0.mk hy108
       clear hy108
       by_cases c18 : x104002_1.length < 5864062014805
       ·
        rw [if_pos c18] at H
        have LMc18:=Aside0.mk c18
        clear c18
        obtain ⟨y111,hy111⟩ : ∃ y_ : List (List Int),y_ = (x104002_1 ++ [y108]):=⟨_,rfl⟩
        replace H : (inquestref03_CopyTrace.l0 k1 (wrap64 (x4_1 + 1)) a0_0 l0_1 l0_2 a0_0 y104 y111) = some (r1,r2,r3):=by first|(rw [hy111];with_reducible exact H)|(have H2_:=(Option.bind_some _ _).symm.trans H;rw [hy111];with_reducible exact H2_)|(have H2_:=(Option.bind_some _ _).symm.trans H;with_reducible exact H2_)|with_reducible exact H|(rw [hy111];exact H)|exact H
        have Ny111:=Aside0.mk hy111
        clear hy111
        have H':=Aside0.mk H
        clear H
        have hnb19:=NB101_102.out
        have hnc19:=NB102_101.out
        have hnb20:=NB101_103.out
        have hnc20:=NB103_101.out
        have hcz21_0 : wr.cell? ⟨gb101,0,none⟩ = some (.int .i64 a0_0):=(blk_cell BK101.out 0).trans rfl
        have hcz21_1 : wr.cell? ⟨gb101,1,none⟩ = some (.slice A0_1 l0_1.length c0_1):=(blk_cell BK101.out 1).trans rfl
        have hcz21_2 : wr.cell? ⟨gb101,2,none⟩ = some (.slice A0_2 l0_2.length c0_2):=(blk_cell BK101.out 2).trans rfl
        have hfz21_0:=blk_frozen BK101.out 0
        have hfz21_1:=blk_frozen BK101.out 1
        have hfz21_2:=blk_frozen BK101.out 2
        try go_wp2
        have n0_:=Aside0.mk (Kd.R_drew HO_104001.out)
        have n1_:=Aside0.mk (Kd.S_drew HO_104002.out)
        have n2_:=Aside0.mk (blk_drew BK101.out)
        have n3_:=Aside0.mk (blk_drew BK102.out)
        have n4_:=Aside0.mk (blk_drew BK103.out)
        have n5_:=Aside0.mk (below_drew1 HB.out)
        clear HO_104001
        clear HO_104002
        clear BK101
        clear BK102
        clear BK103
        clear HB
        have HO_104001:=n0_
        have HO_104002:=n1_
        have BK101:=n2_
        have BK102:=n3_
        have BK103:=n4_
        have HB:=n5_
        clear n0_ n1_ n2_ n3_ n4_ n5_
        have p107 : 0 ≤ (x4_1 : Int):=of_decide_eq_true (by first|(with_reducible assumption)|assumption)
        have q107 : x4_1 < (l0_2.length : Int):=of_decide_eq_true (by first|(with_reducible assumption)|assumption)
        obtain ⟨ad107,A107_0,c107_0,e107,hx107_0,hl107_0,hi107_0⟩:=at_L4 HR0_2.out x4_1 p107 q107
        have hw107_0:=hx107_0
        cases e107
        replace hx107_0:=(HB.out.cell (World.block_lt_of_cell? w _ hx107_0)).trans hx107_0
        have HR107_0:=Aside0.mk hi107_0
        have HC107_0:=Aside0.mk hl107_0
        clear hi107_0 hl107_0
        replace p107:=eq_true p107
        replace q107:=eq_true q107
        refine start_ (n:=13) (S:=fun w' => w'.cell? ⟨gb103,0,none⟩ = some (.int .i64 a0_0)∧w'.cell? ⟨gb103,1,none⟩ = some (.slice Ao13 y104.length co13)∧w'.cell? ⟨gb103,2,none⟩ = some (u104002)∧w'.cell? ⟨gb101,0,none⟩ = some (.int .i64 a0_0)∧w'.cell? ⟨gb101,1,none⟩ = some (.slice A0_1 l0_1.length c0_1)∧w'.cell? ⟨gb101,2,none⟩ = some (.slice (some ad107) l0_2.length c0_2)∧w'.cell? (ad107.add (x4_1).toNat) = some (.slice A107_0 (rd_L4 l0_2 x4_1).length c107_0)) (ds:=[12]) #[false,false,false,false,false,false,false,false,false,false,false,false,false] (by kernel_rfl) rfl rfl ⟨(blk_cell BK103.out 0).trans rfl,(blk_cell BK103.out 1).trans rfl,(blk_cell BK103.out 2).trans rfl,(blk_cell BK101.out 0).trans rfl,(blk_cell BK101.out 1).trans rfl,(blk_cell BK101.out 2).trans rfl,((HB.out.cell (World.block_lt_of_cell? w _ hw107_0)).trans hw107_0)⟩ (fun hHeld => ?_);refine with_tabW inquestref03_CopyTrace.tab7 inquestref03_CopyTrace.bits7 (fun HT_ HW_ => ?_)
        generalize wr.drew = w22 at HO_104001 HO_104002 BK101 BK102 BK103 HB HR107_0 hx107_0 hHeld ⊢
        refine pure_ (i:=0) (N:=some 22) (v:=?_) (a':=?_) #[true,false,false,false,false,false,false,false,false,false,false,false,false] rfl rfl (any_of HT_.out (by kernel_rfl)) (fun _ _ _ h => h) (Or.inl ⟨by rfl,?_⟩) ?_ ?_
        rotate_left
        ·
         intro w'
         go_simp
         with_reducible rfl
        rotate_left
        ·
         simp only [Act.put,List.setIfInBounds_toArray,List.set_cons_zero,List.set_cons_succ,i64_w,i32_w]
         rfl
        refine pure_ (i:=2) (N:=some 24) (v:=?_) (a':=?_) #[true,false,true,false,false,false,false,false,false,false,false,false,false] rfl rfl (any_of HT_.out (by kernel_rfl)) (fun _ _ _ h => h) (Or.inl ⟨by rfl,?_⟩) ?_ ?_
        rotate_left
        ·
         intro w'
         go_simp
         with_reducible rfl
        rotate_left
        ·
         simp only [Act.put,List.setIfInBounds_toArray,List.set_cons_zero,List.set_cons_succ,i64_w,i32_w]
         rfl
        refine pure_ (i:=3) (N:=some 25) (v:=?_) (a':=?_) #[true,false,true,true,false,false,false,false,false,false,false,false,false] rfl rfl (any_of HT_.out (by kernel_rfl)) (fun _ _ _ h => h) (Or.inl ⟨by rfl,?_⟩) ?_ ?_
        rotate_left
        ·
         intro w'
         go_simp
         with_reducible rfl
        rotate_left
        ·
         simp only [Act.put,List.setIfInBounds_toArray,List.set_cons_zero,List.set_cons_succ,i64_w,i32_w]
         rfl
        refine pure_ (i:=5) (N:=some 27) (v:=?_) (a':=?_) #[true,false,true,true,false,true,false,false,false,false,false,false,false] rfl rfl (any_of HT_.out (by kernel_rfl)) (fun _ _ _ h => h) (Or.inl ⟨by rfl,?_⟩) ?_ ?_
        rotate_left
        ·
         intro w'
         go_simp
         with_reducible rfl
        rotate_left
        ·
         simp only [Act.put,List.setIfInBounds_toArray,List.set_cons_zero,List.set_cons_succ,i64_w,i32_w]
         rfl
        refine take_ (i:=1) (N:=some 23) (v:=?_) (a':=?_) #[true,true,true,true,false,true,false,false,false,false,false,false,false] rfl rfl (take_ofW HT_.out HW_.out (by kernel_rfl)) (fun _ _ _ h => h) (Or.inl ⟨by rfl,?_⟩) hHeld ?_ ?_
        rotate_left
        ·
         rintro w' ⟨s0,s1,s2,s3,s4,s5,s6⟩
         go_simp
         with_reducible rfl
        rotate_left
        ·
         simp only [Act.put,List.setIfInBounds_toArray,List.set_cons_zero,List.set_cons_succ,i64_w,i32_w]
         rfl
        refine take_ (i:=4) (N:=some 26) (v:=?_) (a':=?_) #[true,true,true,true,true,true,false,false,false,false,false,false,false] rfl rfl (take_ofW HT_.out HW_.out (by kernel_rfl)) (fun _ _ _ h => h) (Or.inl ⟨by rfl,?_⟩) hHeld ?_ ?_
        rotate_left
        ·
         rintro w' ⟨s0,s1,s2,s3,s4,s5,s6⟩
         go_simp
         with_reducible rfl
        rotate_left
        ·
         simp only [Act.put,List.setIfInBounds_toArray,List.set_cons_zero,List.set_cons_succ,i64_w,i32_w]
         rfl
        refine pure_ (i:=6) (N:=some 28) (v:=?_) (a':=?_) #[true,true,true,true,true,true,true,false,false,false,false,false,false] rfl rfl (any_of HT_.out (by kernel_rfl)) (fun _ _ _ h => h) (Or.inl ⟨by rfl,?_⟩) ?_ ?_
        rotate_left
        ·
         intro w'
         go_simp
         with_reducible rfl
        rotate_left
        ·
         simp only [Act.put,List.setIfInBounds_toArray,List.set_cons_zero,List.set_cons_succ,i64_w,i32_w]
         rfl
        refine take_ (i:=7) (N:=some 29) (v:=?_) (a':=?_) #[true,true,true,true,true,true,true,true,false,false,false,false,false] rfl rfl (take_ofW HT_.out HW_.out (by kernel_rfl)) (fun _ _ _ h => h) (Or.inl ⟨by rfl,?_⟩) hHeld ?_ ?_
        rotate_left
        ·
         rintro w' ⟨s0,s1,s2,s3,s4,s5,s6⟩
         go_simp
         with_reducible rfl
        rotate_left
        ·
         simp only [Act.put,List.setIfInBounds_toArray,List.set_cons_zero,List.set_cons_succ,i64_w,i32_w]
         rfl
        refine one_ (i:=8) (N:=some 30) #[true,true,true,true,true,true,true,true,true,false,false,false,false] rfl rfl (one_of HT_.out (by kernel_rfl)) (by decide) (fun K hK => ?_)
        refine Kd.R_append_rows_step (Kd.int .u8) (w0:=w) w.heap.size (by rfl) (.tmp 24) (.tmp 29) 27 5 (.int .u8 0) 1 rfl Tryd.underlying27 info5 rfl (by decide) (by omega) (.slice none 0 0) ([] : List Int) (rd_L4 l0_2 x4_1) _ _ _ (fun k_ => some k_ ≠ (.slice Ao13 y104.length co13 : Value).ownBlock) (fun _ => False) rfl rfl ?aO ?aR (fun _ _ h => h) (fun _ h => h.elim) ?aF ?aB ?aS ?aL ?_
        (case aR => repeat (first|exact (Kd.C_below HR107_0.out HB.out)|(with_reducible refine Kd.C_alloc ?_ _)|(with_reducible refine Kd.C_drewN ?_ _)|(with_reducible refine Kd.C_drew ?_)))
        (case aB => exact (by repeat (first|(with_reducible first|exact HB.out|apply below_alloc|apply pw_below_drewN|apply below_drew1|refine below_set ?_ GE101.out|refine below_set ?_ GE102.out|refine below_set ?_ GE103.out)|exact HB.out)))
        (case aF => exact (fun k_ hk => Kd.fresh' (Kd.R_lt (by (with_reducible repeat (first|apply Kd.R_alloc|apply Kd.R_drewN|apply Kd.R_drew));exact HO_104001.out)) k_ hk))
        (case aO => exact ((Kd.R_nil _ _ _ _ (fun k_ => some k_ ≠ (.slice Ao13 y104.length co13 : Value).ownBlock))))
        (case aS => exact (below_size (by repeat (first|(with_reducible first|exact HB.out|apply below_alloc|apply pw_below_drewN|apply below_drew1|refine below_set ?_ GE101.out|refine below_set ?_ GE102.out|refine below_set ?_ GE103.out)|exact HB.out))))
        (case aL => have:=LMc17.out;omega)
        intro v109 w23 ho hb hg hat
        rw [← Ny108.out] at ho
        have n0_:=Aside0.mk (Kd.R_after (Kd.R_apart_nil (by (with_reducible repeat (first|apply Kd.R_alloc|apply Kd.R_drewN|apply Kd.R_drew));exact HO_104001.out)) hg hat)
        have n1_:=Aside0.mk (Kd.S_after (Kd.S_apart_nil (by (with_reducible repeat (first|apply Kd.S_alloc|apply Kd.S_drewN|apply Kd.S_drew));exact HO_104002.out)) hg hat)
        have n2_:=Aside0.mk (blk_grown (g:=gb101) (o:=.cells #[.int .i64 a0_0,.slice A0_1 l0_1.length c0_1,.slice (some ad107) l0_2.length c0_2] 30 (0,0)) (by (with_reducible repeat (first|refine blk_drewN ?_ _|refine blk_drew ?_|refine blk_alloc ?_ _));exact BK101.out) hg (by simp [Value.ownBlock]))
        have n3_:=Aside0.mk (blk_grown (g:=gb102) (o:=.cells #[.int .i64 0,.slice none 0 0,.slice none 0 0] 30 (0,0)) (by (with_reducible repeat (first|refine blk_drewN ?_ _|refine blk_drew ?_|refine blk_alloc ?_ _));exact BK102.out) hg (by simp [Value.ownBlock]))
        have n4_:=Aside0.mk (blk_grown (g:=gb103) (o:=.cells #[.int .i64 a0_0,.slice Ao13 y104.length co13,u104002] 30 (0,0)) (by (with_reducible repeat (first|refine blk_drewN ?_ _|refine blk_drew ?_|refine blk_alloc ?_ _));exact BK103.out) hg (by simp [Value.ownBlock]))
        have n5_:=Aside0.mk (hb)
        have n6_:=Aside0.mk (ho)
        clear HO_104001
        clear HO_104002
        clear BK101
        clear BK102
        clear BK103
        clear HB
        have HO_104001:=n0_
        have HO_104002:=n1_
        have BK101:=n2_
        have BK102:=n3_
        have BK103:=n4_
        have HB:=n5_
        have HO110:=n6_
        clear n0_ n1_ n2_ n3_ n4_ n5_ n6_
        clear ho hb hg hat
        obtain ⟨Ao25,co25,eo25⟩:=Kd.R_slice HO110.out
        (first|subst eo25|(injection eo25 with f1_ f2_ f3_;have f4_:=f1_.symm;have f5_:=f3_.symm;clear f1_ f2_ f3_;subst f4_;subst f5_))
        refine hK.out _ _ ⟨(blk_cell BK103.out 0).trans rfl,(blk_cell BK103.out 1).trans rfl,(blk_cell BK103.out 2).trans rfl,(blk_cell BK101.out 0).trans rfl,(blk_cell BK101.out 1).trans rfl,(blk_cell BK101.out 2).trans rfl,((HB.out.cell (World.block_lt_of_cell? w _ hw107_0)).trans hw107_0)⟩ (fun hHeld => ?_)
        clear hK K
        refine norm_ (a':=?_) ?_ ?_
        rotate_left
        ·
         show Act.put _ (some 30) _ = _
         simp only [Act.put,List.setIfInBounds_toArray,List.set_cons_zero,List.set_cons_succ,i64_w,i32_w]
         rfl
        refine one_ (i:=9) (N:=some 31) #[true,true,true,true,true,true,true,true,true,true,false,false,false] rfl rfl (one_of HT_.out (by kernel_rfl)) (by decide) (fun K hK => ?_)
        refine value_ (w1:=?_) (v:=?_) (by rfl) rfl ?_ ?_
        rotate_left 2
        ·
         go_simp
         constructor
         ·
          rfl
         ·
          rfl
        refine hK.out _ _ ⟨(blk_cell (blk_alloc BK103.out _) 0).trans rfl,(blk_cell (blk_alloc BK103.out _) 1).trans rfl,(blk_cell (blk_alloc BK103.out _) 2).trans rfl,(blk_cell (blk_alloc BK101.out _) 0).trans rfl,(blk_cell (blk_alloc BK101.out _) 1).trans rfl,(blk_cell (blk_alloc BK101.out _) 2).trans rfl,(World.cell?_alloc_lt _ _ _ (World.block_lt_of_cell? _ _ (((HB.out.cell (World.block_lt_of_cell? w _ hw107_0)).trans hw107_0)))).trans (((HB.out.cell (World.block_lt_of_cell? w _ hw107_0)).trans hw107_0))⟩ (fun hHeld => ?_)
        clear hK K
        refine norm_ (a':=?_) ?_ ?_
        rotate_left
        ·
         show Act.put _ (some 31) _ = _
         simp only [Act.put,List.setIfInBounds_toArray,List.set_cons_zero,List.set_cons_succ,i64_w,i32_w]
         rfl
        refine one_ (i:=10) (N:=some 32) #[true,true,true,true,true,true,true,true,true,true,true,false,false] rfl rfl (one_of HT_.out (by kernel_rfl)) (by decide) (fun K hK => ?_)
        refine Kd.S_append_step (Kd.slice 5 (Kd.int .u8)) (w0:=w) w.heap.size (by rfl) (.tmp 23) (.tmp 31) 28 27 (.slice none 0 0) 24 rfl Tryd.underlying28 info27 rfl (by decide) (by omega) u104002 x104002_1 y108 [.slice Ao25 y108.length co25] (fun k_ => some k_ ≠ (.slice Ao13 y104.length co13 : Value).ownBlock) (fun k_ => some k_ = (.slice Ao25 y108.length co25 : Value).ownBlock) rfl rfl ?aP (fun k_ hk_ => ((Kd.R_mono (ok':=fun k_ => ((fun k_ => some k_ ≠ (.slice Ao13 y104.length co13 : Value).ownBlock)) k_∧some k_ ≠ (u104002 : Value).ownBlock) (Kd.R_apart' (HO110.out) (Kd.S_typed HO_104002.out) (by decide)) (fun k_ hk => ⟨hk.1,hk.2⟩))).1 k_ hk_.symm) ?aF ?aO ?aB ?aS ?aL ?_
        (case aP => exact Kd.M_row (Kd.R_mono (Kd.R_tight rfl (Kd.R_mono (ok':=fun k_ => ((fun k_ => some k_ ≠ (.slice Ao13 y104.length co13 : Value).ownBlock)) k_∧some k_ ≠ (u104002 : Value).ownBlock) (Kd.R_apart' (HO110.out) (Kd.S_typed HO_104002.out) (by decide)) (fun k_ hk => ⟨hk.1,hk.2⟩))) (fun _ h_ => h_)))
        (case aB => exact (by repeat (first|(with_reducible first|exact HB.out|apply below_alloc|apply pw_below_drewN|apply below_drew1|refine below_set ?_ GE101.out|refine below_set ?_ GE102.out|refine below_set ?_ GE103.out)|exact HB.out)))
        (case aF => exact (fun k_ hk => Kd.fresh' (Kd.R_lt (by (with_reducible repeat (first|apply Kd.R_alloc|apply Kd.R_drewN|apply Kd.R_drew));exact HO_104001.out)) k_ hk))
        (case aO => exact (by (with_reducible repeat (first|apply Kd.S_alloc|apply Kd.S_drewN|apply Kd.S_drew));exact Kd.S_mono HO_104002.out (fun k_ hk => ⟨hk.1,fun e_ => hk.2 e_⟩)))
        (case aS => exact (below_size (by repeat (first|(with_reducible first|exact HB.out|apply below_alloc|apply pw_below_drewN|apply below_drew1|refine below_set ?_ GE101.out|refine below_set ?_ GE102.out|refine below_set ?_ GE103.out)|exact HB.out))))
        (case aL => have:=LMc18.out;omega)
        intro v112 w24 ho hb hg hat
        rw [← Ny111.out] at ho
        have n0_:=Aside0.mk (Kd.R_over' (by (with_reducible repeat (first|apply Kd.R_alloc|apply Kd.R_drewN|apply Kd.R_drew));exact HO_104001.out) (Kd.S_typed (by (with_reducible repeat (first|apply Kd.S_alloc|apply Kd.S_drewN|apply Kd.S_drew));exact HO_104002.out)) (by decide) hg)
        have n1_:=Aside0.mk (blk_grown (g:=gb101) (o:=.cells #[.int .i64 a0_0,.slice A0_1 l0_1.length c0_1,.slice (some ad107) l0_2.length c0_2] 30 (0,0)) (by (with_reducible repeat (first|refine blk_drewN ?_ _|refine blk_drew ?_|refine blk_alloc ?_ _));exact BK101.out) hg (Kd.S_ne HO_104002.out BK101.out (by decide)))
        have n2_:=Aside0.mk (blk_grown (g:=gb102) (o:=.cells #[.int .i64 0,.slice none 0 0,.slice none 0 0] 30 (0,0)) (by (with_reducible repeat (first|refine blk_drewN ?_ _|refine blk_drew ?_|refine blk_alloc ?_ _));exact BK102.out) hg (Kd.S_ne HO_104002.out BK102.out (by decide)))
        have n3_:=Aside0.mk (blk_grown (g:=gb103) (o:=.cells #[.int .i64 a0_0,.slice Ao13 y104.length co13,u104002] 30 (0,0)) (by (with_reducible repeat (first|refine blk_drewN ?_ _|refine blk_drew ?_|refine blk_alloc ?_ _));exact BK103.out) hg (Kd.S_ne HO_104002.out BK103.out (by decide)))
        have n4_:=Aside0.mk (hb)
        have n5_:=Aside0.mk (ho)
        clear HO_104001
        clear BK101
        clear BK102
        clear BK103
        clear HB
        clear HO_104002
        clear HO110
        have HO_104001:=n0_
        have BK101:=n1_
        have BK102:=n2_
        have BK103:=n3_
        have HB:=n4_
        have HO113:=n5_
        clear n0_ n1_ n2_ n3_ n4_ n5_
        clear ho hb hg hat
        obtain ⟨Ao26,co26,eo26⟩:=Kd.S_slice HO113.out
        (first|subst eo26|(injection eo26 with f1_ f2_ f3_;have f4_:=f1_.symm;have f5_:=f3_.symm;clear f1_ f2_ f3_;subst f4_;subst f5_))
        refine hK.out _ _ ⟨(blk_cell BK103.out 0).trans rfl,(blk_cell BK103.out 1).trans rfl,(blk_cell BK103.out 2).trans rfl,(blk_cell BK101.out 0).trans rfl,(blk_cell BK101.out 1).trans rfl,(blk_cell BK101.out 2).trans rfl,((HB.out.cell (World.block_lt_of_cell? w _ hw107_0)).trans hw107_0)⟩ (fun hHeld => ?_)
        clear hK K
        refine norm_ (a':=?_) ?_ ?_
        rotate_left
        ·
         show Act.put _ (some 32) _ = _
         simp only [Act.put,List.setIfInBounds_toArray,List.set_cons_zero,List.set_cons_succ,i64_w,i32_w]
         rfl
        refine pure_ (i:=11) (N:=some 33) (v:=?_) (a':=?_) #[true,true,true,true,true,true,true,true,true,true,true,true,false] rfl rfl (any_of HT_.out (by kernel_rfl)) (fun _ _ _ h => h) (Or.inl ⟨by rfl,?_⟩) ?_ ?_
        rotate_left
        ·
         intro w'
         go_simp
         with_reducible rfl
        rotate_left
        ·
         simp only [Act.put,List.setIfInBounds_toArray,List.set_cons_zero,List.set_cons_succ,i64_w,i32_w]
         rfl
        refine last_ (i:=12) (N:=none) #[true,true,true,true,true,true,true,true,true,true,true,true,true] rfl rfl (one_of HT_.out (by kernel_rfl)) (by decide) (fun K hK => ?_)
        have hs27 : w24.cell? ⟨gb103,2,none⟩ = some (u104002):=(blk_cell BK103.out 2).trans rfl
        have hfs27:=blk_frozen BK103.out 2
        have hns27_0:=NB101_103.out
        have hns27_1:=NB102_103.out
        have hms27_0:=NB103_101.out
        have hms27_1:=NB103_102.out
        refine skip_ (w1:=?_) (by rfl) rfl ?_ ?_
        rotate_left
        ·
         go_simp
         rfl
        refine hK.out _ _ ?_
        clear hK K
        refine done_ (done_of HT_.out (by kernel_rfl)) ?_
        try go_wp2
        go_roundg k1
        case measure => have:=HK1.out;omega
        case rel => exact ⟨(wrap64 (x4_1 + 1)),(y111),(.slice Ao26 y111.length co26),(by first|rfl|(simp;done)|(simp [*];done)),H',⟨by have:=HK1.out;omega⟩,⟨by (with_reducible repeat (first|apply Kd.R_alloc|apply Kd.R_drewN|apply Kd.R_drew));exact Kd.R_mono (Kd.R_far (p:=⟨gb103,2,none⟩) (Kd.R_types HO_104001.out BK103.out (by decide)) (fun _ hk => hk.2) (.slice Ao26 y111.length co26)) (fun _ hk => trivial)⟩,⟨by (with_reducible repeat (first|apply Kd.S_alloc|apply Kd.S_drewN|apply Kd.S_drew));exact Kd.S_mono (Kd.S_far (p:=⟨gb103,2,none⟩) (Kd.S_types HO113.out BK103.out (by decide)) (fun _ hk => hk.2) (.slice Ao26 y111.length co26)) (fun _ hk => hk.1)⟩,⟨by (with_reducible repeat (first|refine blk_drewN ?_ _|refine blk_drew ?_|refine blk_alloc ?_ _));refine blk_far ?_ NB101_103.out _;(with_reducible repeat (first|refine blk_drewN ?_ _|refine blk_drew ?_|refine blk_alloc ?_ _));exact BK101.out⟩,⟨by (with_reducible repeat (first|refine blk_drewN ?_ _|refine blk_drew ?_|refine blk_alloc ?_ _));refine blk_far ?_ NB102_103.out _;(with_reducible repeat (first|refine blk_drewN ?_ _|refine blk_drew ?_|refine blk_alloc ?_ _));exact BK102.out⟩,⟨by (with_reducible repeat (first|refine blk_drewN ?_ _|refine blk_drew ?_|refine blk_alloc ?_ _));refine blk_put (cs:=#[.int .i64 a0_0,.slice Ao13 y104.length co13,u104002]) ?_ 2 _ rfl;(with_reducible repeat (first|refine blk_drewN ?_ _|refine blk_drew ?_|refine blk_alloc ?_ _));exact BK103.out⟩,⟨by repeat (first|(with_reducible first|exact HB.out|apply below_alloc|apply pw_below_drewN|apply below_drew1|refine below_set ?_ GE101.out|refine below_set ?_ GE102.out|refine below_set ?_ GE103.out)|exact HB.out)⟩⟩
       ·
        rw [if_neg c18] at H
        exact absurd H (by simp)
      ·
       rw [if_neg c17] at H
       exact absurd H (by simp)
     ·
      rw [if_neg c16] at H
      exact absurd H (by simp)
    ·
     rw [if_neg c15] at H
     have c15b0 : decide (x4_1 < (l0_2.length : Int)) = false:=decide_eq_false c15
     clear c15
     simp only [Option.some.injEq,Prod.mk.injEq] at H
     obtain ⟨rfl,rfl,rfl⟩:=H
     have hnb28:=NB101_102.out
     have hnc28:=NB102_101.out
     have hnb29:=NB101_103.out
     have hnc29:=NB103_101.out
     have hcz30_0 : wr.cell? ⟨gb101,0,none⟩ = some (.int .i64 a0_0):=(blk_cell BK101.out 0).trans rfl
     have hcz30_1 : wr.cell? ⟨gb101,1,none⟩ = some (.slice A0_1 l0_1.length c0_1):=(blk_cell BK101.out 1).trans rfl
     have hcz30_2 : wr.cell? ⟨gb101,2,none⟩ = some (.slice A0_2 l0_2.length c0_2):=(blk_cell BK101.out 2).trans rfl
     have hfz30_0:=blk_frozen BK101.out 0
     have hfz30_1:=blk_frozen BK101.out 1
     have hfz30_2:=blk_frozen BK101.out 2
     have hnb31:=NB103_102.out
     have hnc31:=NB102_103.out
     have hcz32_0 : wr.cell? ⟨gb103,0,none⟩ = some (.int .i64 a0_0):=(blk_cell BK103.out 0).trans rfl
     have hcz32_1 : wr.cell? ⟨gb103,1,none⟩ = some (.slice Ao13 y104.length co13):=(blk_cell BK103.out 1).trans rfl
     have hcz32_2 : wr.cell? ⟨gb103,2,none⟩ = some (u104002):=(blk_cell BK103.out 2).trans rfl
     have hfz32_0:=blk_frozen BK103.out 0
     have hfz32_1:=blk_frozen BK103.out 1
     have hfz32_2:=blk_frozen BK103.out 2
     have hcz33_0 : wr.cell? ⟨gb102,0,none⟩ = some (.int .i64 0):=(blk_cell BK102.out 0).trans rfl
     have hcz33_1 : wr.cell? ⟨gb102,1,none⟩ = some (.slice none 0 0):=(blk_cell BK102.out 1).trans rfl
     have hcz33_2 : wr.cell? ⟨gb102,2,none⟩ = some (.slice none 0 0):=(blk_cell BK102.out 2).trans rfl
     have hfz33_0:=blk_frozen BK102.out 0
     have hfz33_1:=blk_frozen BK102.out 1
     have hfz33_2:=blk_frozen BK102.out 2
     obtain ⟨Ao34,co34,eo34⟩:=Kd.S_slice HO_104002.out
     subst eo34
     go_wp2
     refine bodyPost_ret (results_cell_row rfl _ _ gb102 30 #[.int .i64 a0_0,.slice Ao13 y104.length co13,.slice Ao34 x104002_1.length co34] (0,0) _ rfl (by (with_reducible repeat (first|refine blk_drewN ?_ _|refine blk_drew ?_|refine blk_alloc ?_ _));refine blk_put (cs:=#[.int .i64 a0_0,.slice Ao13 y104.length co13,.slice none 0 0]) ?_ 2 _ rfl;(with_reducible repeat (first|refine blk_drewN ?_ _|refine blk_drew ?_|refine blk_alloc ?_ _));refine blk_put (cs:=#[.int .i64 a0_0,.slice none 0 0,.slice none 0 0]) ?_ 1 _ rfl;(with_reducible repeat (first|refine blk_drewN ?_ _|refine blk_drew ?_|refine blk_alloc ?_ _));refine blk_put (cs:=#[.int .i64 0,.slice none 0 0,.slice none 0 0]) ?_ 0 _ rfl;(with_reducible repeat (first|refine blk_drewN ?_ _|refine blk_drew ?_|refine blk_alloc ?_ _));exact BK102.out) Tryd.underlying30 rfl (by kernel_rfl)) rfl ?_
     exact ⟨_,_,by first|rfl|(simp [errW_none,errW_some] <;> rfl)|(simp [*,errW_none,errW_some] <;> rfl),by (with_reducible repeat (first|apply Kd.R_alloc|apply Kd.R_drewN|apply Kd.R_drew));exact Kd.R_mono (Kd.R_far (p:=⟨gb102,2,none⟩) (Kd.R_far (p:=⟨gb102,1,none⟩) (Kd.R_far (p:=⟨gb102,0,none⟩) (Kd.R_types HO_104001.out BK102.out (by decide)) (fun _ hk => hk.2) (.int .i64 a0_0)) (fun _ hk => hk.2) (.slice Ao13 y104.length co13)) (fun _ hk => hk.2) (.slice Ao34 x104002_1.length co34)) (fun _ hk => trivial),by (with_reducible repeat (first|apply Kd.S_alloc|apply Kd.S_drewN|apply Kd.S_drew));exact Kd.S_mono (Kd.S_far (p:=⟨gb102,2,none⟩) (Kd.S_far (p:=⟨gb102,1,none⟩) (Kd.S_far (p:=⟨gb102,0,none⟩) (Kd.S_types HO_104002.out BK102.out (by decide)) (fun _ hk => hk.2) (.int .i64 a0_0)) (fun _ hk => hk.2) (.slice Ao13 y104.length co13)) (fun _ hk => hk.2) (.slice Ao34 x104002_1.length co34)) (fun _ hk => hk.1),by repeat (first|(with_reducible first|exact HB.out|apply below_alloc|apply pw_below_drewN|apply below_drew1|refine below_set ?_ GE101.out|refine below_set ?_ GE102.out|refine below_set ?_ GE103.out)|exact HB.out)⟩
 ·
  rw [if_neg c2] at H
  exact absurd H (by simp)

end Go.Proofs.YthpnooookkpkaaaDoor.F
/- A function of the program as a plain Lean function, and that the machine's call comes to it: written by a program of this session over the kit's print. -/
namespace Go.Proofs.YthpnooookkpkaaaDoor.F
open Go.RowKit Go.Proofs.YthpnooookkpkaaaDoorW.PrintWords Go.Proofs.YthpnooookkpkaaaDoorW.PrintLast Go.Proofs.YthpnooookkpkaaaDoorW.PrintMore
attribute [local go_sem] max2_int min2_int max_two min_two max_three min_three max_four min_four   -- for this text's walks alone
set_option linter.unusedVariables false
set_option linter.unusedSimpArgs false

/-! ### inquestlaw07_filled: function 17 -/
mutual
def inquestlaw07_filled.l0 : Nat→List Bool→Int→Int→Int→Int→List Int→List (List Int)→Option (Int × List Int × (List (List Int)))
 | 0,_,_,_,_,_,_,_ => none
 | k + 1,x1,x5,x13,x14,x102000,x102001,x102002 => if x14 < x13 then (if 0 ≤ x14 then (if x14 < (x102001.length : Int) then (if (rd x102001 x14) = 2 then ((some (x102001.set (x14 : Int).toNat 0 : List Int)).bind fun y111 => (if x5 < (x1.length : Int) then (if 0 ≤ x5 then (if rdOf false x1 x5 = true then (inquestlaw07_filled.l0 k x1 (wrap64 (x5 + 1)) x13 (wrap64 (x14 + 1)) x102000 (y111.set (x14 : Int).toNat 1) x102002) else (inquestlaw07_filled.l0 k x1 (wrap64 (x5 + 1)) x13 (wrap64 (x14 + 1)) x102000 y111 x102002)) else (none)) else (inquestlaw07_filled.l0 k x1 (wrap64 (x5 + 1)) x13 (wrap64 (x14 + 1)) x102000 y111 x102002))) else (inquestlaw07_filled.l0 k x1 x5 x13 (wrap64 (x14 + 1)) x102000 x102001 x102002)) else (none)) else (none)) else (inquestlaw07_filled.l1 k x1 x5 (x102002.length : Int) 0 x102000 x102001 x102002)
def inquestlaw07_filled.l1 : Nat→List Bool→Int→Int→Int→Int→List Int→List (List Int)→Option (Int × List Int × (List (List Int)))
 | 0,_,_,_,_,_,_,_ => none
 | k + 1,x1,x5,x46,x47,x102000,x102001,x102002 => if x47 < x46 then (if 0 ≤ x47 then (if x47 < (x102002.length : Int) then (inquestlaw07_filled.l2 k x1 x5 x47 x46 x47 ((rd_L4 x102002 x47).length : Int) 0 x102000 x102001 x102002) else (none)) else (none)) else (some (x102000,x102001,x102002))
def inquestlaw07_filled.l2 : Nat→List Bool→Int→Int→Int→Int→Int→Int→Int→List Int→List (List Int)→Option (Int × List Int × (List (List Int)))
 | 0,_,_,_,_,_,_,_,_,_,_ => none
 | k + 1,x1,x5,x7,x46,x47,x55,x56,x102000,x102001,x102002 => if x56 < x55 then (if 0 ≤ x7 then (if x7 < (x102002.length : Int) then (if 0 ≤ x56 then (if x56 < ((rd_L4 x102002 x7).length : Int) then (if (rd (rd_L4 x102002 x7) x56) = 2 then ((some (x102002.set (x7 : Int).toNat ((rd_L4 x102002 x7).set (x56 : Int).toNat 0) : List (List Int))).bind fun y120 => (if x5 < (x1.length : Int) then (if 0 ≤ x5 then (if rdOf false x1 x5 = true then (if x56 < ((rd_L4 y120 x7).length : Int) then (inquestlaw07_filled.l2 k x1 (wrap64 (x5 + 1)) x7 x46 x47 x55 (wrap64 (x56 + 1)) x102000 x102001 (y120.set (x7 : Int).toNat ((rd_L4 y120 x7).set (x56 : Int).toNat 1))) else (none)) else (inquestlaw07_filled.l2 k x1 (wrap64 (x5 + 1)) x7 x46 x47 x55 (wrap64 (x56 + 1)) x102000 x102001 y120)) else (none)) else (inquestlaw07_filled.l2 k x1 (wrap64 (x5 + 1)) x7 x46 x47 x55 (wrap64 (x56 + 1)) x102000 x102001 y120))) else (inquestlaw07_filled.l2 k x1 x5 x7 x46 x47 x55 (wrap64 (x56 + 1)) x102000 x102001 x102002)) else (none)) else (none)) else (none)) else (none)) else (inquestlaw07_filled.l1 k x1 x5 x46 (wrap64 (x47 + 1)) x102000 x102001 x102002)
end
def inquestlaw07_filled.f (k : Nat) (a0_0 : Int) (l0_1 : List Int) (l0_2 : List (List Int)) (l1 : List Bool) : Option (Int × List Int × (List (List Int))):=(inquestref03_CopyTrace.f k a0_0 l0_1 l0_2).bind fun bt103 => (inquestlaw07_filled.l0 k l1 0 (bt103.2.1.length : Int) 0 bt103.1 bt103.2.1 bt103.2.2)
set_option maxHeartbeats 8000000 in
set_option maxRecDepth 100000 in
theorem inquestlaw07_filled.calls (k : Nat) (a0_0 : Int) (A0_1 : Option Addr) (c0_1 : Nat) (l0_1 : List Int) (A0_2 : Option Addr) (c0_2 : Nat) (l0_2 : List (List Int)) (A1 : Option Addr) (c1 : Nat) (l1 : List Bool) (r1 : Int) (r2 : List Int) (r3 : List (List Int)) (w : World) (hr0_1 : Kd.C (Kd.int .u8) w A0_1 l0_1.length l0_1) (hc0_1 : l0_1.length ≤ c0_1) (hr0_2 : Kd.C (Kd.slice 5 (Kd.int .u8)) w A0_2 l0_2.length l0_2) (hc0_2 : l0_2.length ≤ c0_2) (hr1 : Kd.C Kd.bool w A1 l1.length l1) (hc1 : l1.length ≤ c1) (h : inquestlaw07_filled.f k a0_0 l0_1 l0_2 l1 = some (r1,r2,r3)) :
  Calls Tryd.prog 17 #[.agg #[.int .i64 a0_0,.slice A0_1 l0_1.length c0_1,.slice A0_2 l0_2.length c0_2],.slice A1 l1.length c1] w fun e w' => ∃ v1_ v2_ : Value,e = .returned (.agg #[.int .i64 r1,v1_,v2_])∧Kd.R (Kd.int .u8) 5 w' w.heap.size (fun _ => True) v1_ r2∧Kd.S (Kd.slice 5 (Kd.int .u8)) 27 w' w.heap.size (fun k_ => some k_ ≠ (v1_ : Value).ownBlock) v2_ r3∧Below w.heap.size w w':=by
 have hu30:=Tryd.underlying30
 have HR0_1:=Aside0.mk hr0_1
 have HC0_1:=Aside0.mk hc0_1
 clear hr0_1 hc0_1
 have HR0_2:=Aside0.mk hr0_2
 have HC0_2:=Aside0.mk hc0_2
 clear hr0_2 hc0_2
 have HR1:=Aside0.mk hr1
 have HC1:=Aside0.mk hc1
 clear hr1 hc1
 have HB:=Aside0.mk (Below.refl w.heap.size w)
 have H : ((inquestref03_CopyTrace.f k a0_0 l0_1 l0_2).bind fun bt103 => (inquestlaw07_filled.l0 k l1 0 (bt103.2.1.length : Int) 0 bt103.1 bt103.2.1 bt103.2.2)) = some (r1,r2,r3):=h
 clear h
 replace H:=Option.bind_eq_some_iff.mp H
 obtain ⟨⟨t103,t104,t107⟩,A30,H⟩:=H
 replace H : (inquestlaw07_filled.l0 k l1 0 (t104.length : Int) 0 t103 t104 t107) = some (r1,r2,r3):=H
 have A3:=Aside0.mk A30
 clear A30
 have H':=Aside0.mk H
 clear H
 go_enter Tryd.func17,Tryd.ntmps17
 go_wp2_with (first|((with_reducible refine gate_dst (N:=2) rfl ?_);refine box_event ?hg (N:=2) ?hd (cs:=#[.int .i64 a0_0,.slice A0_1 l0_1.length c0_1,.slice A0_2 l0_2.length c0_2]) (t:=30) ?hr ?_;(case hd => rfl);(case hg => rfl);(case hr => first|(go_simp;done)|(go_simp;rfl));intro gb101 hg w4 hbox hb;have n0_:=Aside0.mk (below_step (by repeat (first|(with_reducible first|exact HB.out|apply below_alloc|apply pw_below_drewN|apply below_drew1)|exact HB.out)) hb);have n1_:=Aside0.mk (hbox);have n2_:=Aside0.mk ((by rw [hg];exact (below_size (by repeat (first|(with_reducible first|exact HB.out|apply below_alloc|apply pw_below_drewN|apply below_drew1)|exact HB.out))) : w.heap.size ≤ gb101));have n3_:=Aside0.mk ((by rw [hg];exact (below_size (by repeat (first|(with_reducible first|exact HB.out|apply below_alloc|apply pw_below_drewN|apply below_drew1)|exact HB.out))) : w.heap.size ≤ gb101));clear HB;have HB:=n0_;have BK101:=n1_;have GW101:=n2_;have GE101:=n3_;clear n0_ n1_ n2_ n3_;clear hb hbox hg)|((with_reducible refine gate_dst (N:=4) rfl ?_);refine box_event ?hg (N:=4) ?hd (cs:=#[.int .i64 0,.slice none 0 0,.slice none 0 0]) (t:=30) ?hr ?_;(case hd => rfl);(case hg => rfl);(case hr => first|(go_simp;done)|(go_simp;rfl));intro gb102 hg w5 hbox hb;have n0_:=Aside0.mk (blk_below (g:=gb101) (o:=.cells #[.int .i64 a0_0,.slice A0_1 l0_1.length c0_1,.slice A0_2 l0_2.length c0_2] 30 (0,0)) (by (with_reducible repeat (first|refine blk_drewN ?_ _|refine blk_drew ?_|refine blk_alloc ?_ _));exact BK101.out) hb);have n1_:=Aside0.mk (below_step (by repeat (first|(with_reducible first|exact HB.out|apply below_alloc|apply pw_below_drewN|apply below_drew1|refine below_set ?_ GE101.out)|exact HB.out)) hb);have n2_:=Aside0.mk (hbox);have n3_:=Aside0.mk ((by rw [hg];exact (below_size (by repeat (first|(with_reducible first|exact HB.out|apply below_alloc|apply pw_below_drewN|apply below_drew1|refine below_set ?_ GE101.out)|exact HB.out))) : w.heap.size ≤ gb102));have n4_:=Aside0.mk ((by rw [hg];exact (below_size (by repeat (first|(with_reducible first|exact HB.out|apply below_alloc|apply pw_below_drewN|apply below_drew1|refine below_set ?_ GE101.out)|exact HB.out))) : w.heap.size ≤ gb102));have n5_:=Aside0.mk ((by rw [hg];exact Nat.ne_of_lt (blk_lt (g:=gb101) (o:=.cells #[.int .i64 a0_0,.slice A0_1 l0_1.length c0_1,.slice A0_2 l0_2.length c0_2] 30 (0,0)) (by (with_reducible repeat (first|refine blk_drewN ?_ _|refine blk_drew ?_|refine blk_alloc ?_ _));exact BK101.out)) : gb101 ≠ gb102));have n6_:=Aside0.mk ((by rw [hg];exact Nat.ne_of_gt (blk_lt (g:=gb101) (o:=.cells #[.int .i64 a0_0,.slice A0_1 l0_1.length c0_1,.slice A0_2 l0_2.length c0_2] 30 (0,0)) (by (with_reducible repeat (first|refine blk_drewN ?_ _|refine blk_drew ?_|refine blk_alloc ?_ _));exact BK101.out)) : gb102 ≠ gb101));clear BK101;clear HB;have BK101:=n0_;have HB:=n1_;have BK102:=n2_;have GW102:=n3_;have GE102:=n4_;have NB101_102:=n5_;have NB102_101:=n6_;clear n0_ n1_ n2_ n3_ n4_ n5_ n6_;clear hb hbox hg;have hnb6:=NB101_102.out;have hnc6:=NB102_101.out;have hcz7_0 : w5.cell? ⟨gb101,0,none⟩ = some (.int .i64 a0_0):=(blk_cell BK101.out 0).trans rfl;have hcz7_1 : w5.cell? ⟨gb101,1,none⟩ = some (.slice A0_1 l0_1.length c0_1):=(blk_cell BK101.out 1).trans rfl;have hcz7_2 : w5.cell? ⟨gb101,2,none⟩ = some (.slice A0_2 l0_2.length c0_2):=(blk_cell BK101.out 2).trans rfl;have hfz7_0:=blk_frozen BK101.out 0;have hfz7_1:=blk_frozen BK101.out 1;have hfz7_2:=blk_frozen BK101.out 2)|((with_reducible refine gate_callee (f:=21) rfl ?_);refine goesL_ (some 10) rfl rfl Tryd.func21 (by kernel_rfl) rfl #[.agg #[.int .i64 a0_0,.slice A0_1 l0_1.length c0_1,.slice A0_2 l0_2.length c0_2]] rfl (by (try simp only [List.map_toArray,List.map_cons,List.map_nil]);first|done|rfl|(simp only [List.length_drop,List.length_take];rfl)) ?_;(with_reducible refine (inquestref03_CopyTrace.calls k a0_0 _ _ l0_1 _ _ l0_2 t103 t104 t107 _ ?side1 ?side2 ?side3 ?side4 A3.out).mono ?_);(case side1 => repeat (first|exact (Kd.C_below HR0_1.out HB.out)|(with_reducible refine Kd.C_alloc ?_ _)|(with_reducible refine Kd.C_drewN ?_ _)|(with_reducible refine Kd.C_drew ?_)));(case side2 => exact HC0_1.out);(case side3 => repeat (first|exact (Kd.C_below HR0_2.out HB.out)|(with_reducible refine Kd.C_alloc ?_ _)|(with_reducible refine Kd.C_drewN ?_ _)|(with_reducible refine Kd.C_drew ?_)));(case side4 => exact HC0_2.out);rintro e w8 ⟨v105,v108,rfl,ho0,ho1,hb⟩;refine ⟨_,rfl,?_⟩;have n0_:=Aside0.mk (Kd.R_lower ho0 (below_size (by repeat (first|(with_reducible first|exact HB.out|apply below_alloc|apply pw_below_drewN|apply below_drew1|refine below_set ?_ GE101.out|refine below_set ?_ GE102.out)|exact HB.out))));have n1_:=Aside0.mk (Kd.S_lower ho1 (below_size (by repeat (first|(with_reducible first|exact HB.out|apply below_alloc|apply pw_below_drewN|apply below_drew1|refine below_set ?_ GE101.out|refine below_set ?_ GE102.out)|exact HB.out))));have n2_:=Aside0.mk (blk_below (g:=gb101) (o:=.cells #[.int .i64 a0_0,.slice A0_1 l0_1.length c0_1,.slice A0_2 l0_2.length c0_2] 30 (0,0)) (by (with_reducible repeat (first|refine blk_drewN ?_ _|refine blk_drew ?_|refine blk_alloc ?_ _));exact BK101.out) hb);have n3_:=Aside0.mk (blk_below (g:=gb102) (o:=.cells #[.int .i64 0,.slice none 0 0,.slice none 0 0] 30 (0,0)) (by (with_reducible repeat (first|refine blk_drewN ?_ _|refine blk_drew ?_|refine blk_alloc ?_ _));exact BK102.out) hb);have n4_:=Aside0.mk (below_step (by repeat (first|(with_reducible first|exact HB.out|apply below_alloc|apply pw_below_drewN|apply below_drew1|refine below_set ?_ GE101.out|refine below_set ?_ GE102.out)|exact HB.out)) hb);clear BK101;clear BK102;clear HB;have HO106:=n0_;have HO109:=n1_;have BK101:=n2_;have BK102:=n3_;have HB:=n4_;clear n0_ n1_ n2_ n3_ n4_;(try clear hb);(try clear hb2);(try clear hk);(try clear hi);(try clear ho0);(try clear ho1);have hcz9_0 : w8.cell? ⟨gb101,0,none⟩ = some (.int .i64 a0_0):=(blk_cell BK101.out 0).trans rfl;have hcz9_1 : w8.cell? ⟨gb101,1,none⟩ = some (.slice A0_1 l0_1.length c0_1):=(blk_cell BK101.out 1).trans rfl;have hcz9_2 : w8.cell? ⟨gb101,2,none⟩ = some (.slice A0_2 l0_2.length c0_2):=(blk_cell BK101.out 2).trans rfl;have hfz9_0:=blk_frozen BK101.out 0;have hfz9_1:=blk_frozen BK101.out 1;have hfz9_2:=blk_frozen BK101.out 2;obtain ⟨Ao10,co10,eo10⟩:=Kd.R_slice HO106.out;subst eo10;obtain ⟨Ao11,co11,eo11⟩:=Kd.S_slice HO109.out;subst eo11))
 go_loopg [5,14] k (fun kq v5 v14 w' => ∃ (x5_1 : Int) (x14_1 : Int) (x102001_1 : List Int) (u102001 : Value),v5 = .int .i64 x5_1∧v14 = .int .i64 x14_1∧Aside0 (inquestlaw07_filled.l0 kq l1 x5_1 (t104.length : Int) x14_1 t103 x102001_1 t107 = some (r1,r2,r3))∧Aside0 (kq ≤ k)∧Aside0 (Kd.R (Kd.int .u8) 5 w' w.heap.size (fun _ => True) u102001 x102001_1)∧Aside0 (Kd.S (Kd.slice 5 (Kd.int .u8)) 27 w' w.heap.size (fun k_ => some k_ ≠ (u102001 : Value).ownBlock) (.slice Ao11 t107.length co11) t107)∧Aside0 (w'.heap[gb101]? = some (.cells #[.int .i64 t103,u102001,(.slice Ao11 t107.length co11)] 30 (0,0)))∧Aside0 (w'.heap[gb102]? = some (.cells #[.int .i64 0,(.slice none 0 0),(.slice none 0 0)] 30 (0,0)))∧Aside0 (Below w.heap.size w w'))
 case atStart => exact ⟨(0),(0),(t104),(.slice Ao10 t104.length co10),(by first|rfl|(simp;done)|(simp [*];done)),(by first|rfl|(simp;done)|(simp [*];done)),H',⟨Nat.le_refl _⟩,⟨by (with_reducible repeat (first|apply Kd.R_alloc|apply Kd.R_drewN|apply Kd.R_drew));exact Kd.R_mono (Kd.R_far (p:=⟨gb101,2,none⟩) (Kd.R_far (p:=⟨gb101,1,none⟩) (Kd.R_far (p:=⟨gb101,0,none⟩) (Kd.R_types HO106.out BK101.out (by decide)) (fun _ hk => hk.2) (.int .i64 t103)) (fun _ hk => hk.2) (.slice Ao10 t104.length co10)) (fun _ hk => hk.2) (.slice Ao11 t107.length co11)) (fun _ hk => trivial)⟩,⟨by (with_reducible repeat (first|apply Kd.S_alloc|apply Kd.S_drewN|apply Kd.S_drew));exact Kd.S_mono (Kd.S_far (p:=⟨gb101,2,none⟩) (Kd.S_far (p:=⟨gb101,1,none⟩) (Kd.S_far (p:=⟨gb101,0,none⟩) (Kd.S_types HO109.out BK101.out (by decide)) (fun _ hk => hk.2) (.int .i64 t103)) (fun _ hk => hk.2) (.slice Ao10 t104.length co10)) (fun _ hk => hk.2) (.slice Ao11 t107.length co11)) (fun _ hk => hk.1)⟩,⟨by (with_reducible repeat (first|refine blk_drewN ?_ _|refine blk_drew ?_|refine blk_alloc ?_ _));refine blk_put (cs:=#[.int .i64 t103,.slice Ao10 t104.length co10,.slice A0_2 l0_2.length c0_2]) ?_ 2 _ rfl;(with_reducible repeat (first|refine blk_drewN ?_ _|refine blk_drew ?_|refine blk_alloc ?_ _));refine blk_put (cs:=#[.int .i64 t103,.slice A0_1 l0_1.length c0_1,.slice A0_2 l0_2.length c0_2]) ?_ 1 _ rfl;(with_reducible repeat (first|refine blk_drewN ?_ _|refine blk_drew ?_|refine blk_alloc ?_ _));refine blk_put (cs:=#[.int .i64 a0_0,.slice A0_1 l0_1.length c0_1,.slice A0_2 l0_2.length c0_2]) ?_ 0 _ rfl;(with_reducible repeat (first|refine blk_drewN ?_ _|refine blk_drew ?_|refine blk_alloc ?_ _));exact BK101.out⟩,⟨by (with_reducible repeat (first|refine blk_drewN ?_ _|refine blk_drew ?_|refine blk_alloc ?_ _));refine blk_far ?_ NB102_101.out _;(with_reducible repeat (first|refine blk_drewN ?_ _|refine blk_drew ?_|refine blk_alloc ?_ _));refine blk_far ?_ NB102_101.out _;(with_reducible repeat (first|refine blk_drewN ?_ _|refine blk_drew ?_|refine blk_alloc ?_ _));refine blk_far ?_ NB102_101.out _;(with_reducible repeat (first|refine blk_drewN ?_ _|refine blk_drew ?_|refine blk_alloc ?_ _));exact BK102.out⟩,⟨by repeat (first|(with_reducible first|exact HB.out|apply below_alloc|apply pw_below_drewN|apply below_drew1|refine below_set ?_ GE101.out|refine below_set ?_ GE102.out)|exact HB.out)⟩⟩
 case round =>
  clear H'
  try clear c1
  try clear c2
  try clear p2
  try clear c6
  try clear hcz7_0
  try clear hcz7_1
  try clear hcz7_2
  try clear hcz9_0
  try clear hcz9_1
  try clear hcz9_2
  try clear hfz7_0
  try clear hfz7_1
  try clear hfz7_2
  try clear hfz9_0
  try clear hfz9_1
  try clear hfz9_2
  obtain ⟨x5_1,x14_1,x102001_1,u102001,rfl,rfl,HA,HK1,HO_102001,HO_102002,BK101,BK102,HB⟩:=hrel
  cases gk with
  | zero => exact absurd HA.out (by simp [inquestlaw07_filled.l0])
  | succ k1 =>
   have H:=HA.out
   clear HA
   simp only [inquestlaw07_filled.l0] at H
   by_cases c12 : x14_1 < (t104.length : Int)
   ·
    rw [if_pos c12] at H
    have c12b0 : decide (x14_1 < (t104.length : Int)) = true:=decide_eq_true c12
    clear c12
    by_cases c13 : 0 ≤ x14_1
    ·
     rw [if_pos c13] at H
     have c13b0 : decide (0 ≤ x14_1) = true:=decide_eq_true c13
     clear c13
     by_cases c14 : x14_1 < (x102001_1.length : Int)
     ·
      rw [if_pos c14] at H
      have c14b0 : decide (x14_1 < (x102001_1.length : Int)) = true:=decide_eq_true c14
      clear c14
      by_cases c15 : (rd x102001_1 x14_1) = 2
      ·
       rw [if_pos c15] at H
       have c15b0 : ((rd x102001_1 x14_1) == 2) = true:=beq_iff_eq.mpr c15
       have c15b1 : ((rd x102001_1 x14_1) != 2) = false:=bne_eq_false_iff_eq.mpr c15
       clear c15
       obtain ⟨y111,hy111⟩ : ∃ y_ : List Int,y_ = (x102001_1.set (x14_1 : Int).toNat 0):=⟨_,rfl⟩
       replace H : (if x5_1 < (l1.length : Int) then (if 0 ≤ x5_1 then (if rdOf false l1 x5_1 = true then (inquestlaw07_filled.l0 k1 l1 (wrap64 (x5_1 + 1)) (t104.length : Int) (wrap64 (x14_1 + 1)) t103 (y111.set (x14_1 : Int).toNat 1) t107) else (inquestlaw07_filled.l0 k1 l1 (wrap64 (x5_1 + 1)) (t104.length : Int) (wrap64 (x14_1 + 1)) t103 y111 t107)) else (none)) else (inquestlaw07_filled.l0 k1 l1 (wrap64 (x5_1 + 1)) (t104.length : Int) (wrap64 (x14_1 + 1)) t103 y111 t107)) = some (r1,r2,r3):=by first|(rw [hy111];with_reducible exact H)|(have H2_:=(Option.bind_some _ _).symm.trans H;rw [hy111];with_reducible exact H2_)|(have H2_:=(Option.bind_some _ _).symm.trans H;with_reducible exact H2_)|with_reducible exact H|(rw [hy111];exact H)|exact H
       have Ny111:=Aside0.mk hy111
       clear hy111
       by_cases c17 : x5_1 < (l1.length : Int)
       ·
        rw [if_pos c17] at H
        have c17b0 : decide (x5_1 < (l1.length : Int)) = true:=decide_eq_true c17
        clear c17
        by_cases c18 : 0 ≤ x5_1
        ·
         rw [if_pos c18] at H
         have c18b0 : decide (0 ≤ x5_1) = true:=decide_eq_true c18
         clear c18
         obtain ⟨bq19,hbq19⟩ : ∃ b_ : Bool,b_ = (rdOf false l1 x5_1):=⟨_,rfl⟩
         replace H : (if bq19 = true then (inquestlaw07_filled.l0 k1 l1 (wrap64 (x5_1 + 1)) (t104.length : Int) (wrap64 (x14_1 + 1)) t103 (y111.set (x14_1 : Int).toNat 1) t107) else (inquestlaw07_filled.l0 k1 l1 (wrap64 (x5_1 + 1)) (t104.length : Int) (wrap64 (x14_1 + 1)) t103 y111 t107)) = some (r1,r2,r3):=by rw [← hbq19] at H;exact H
         have Nbq19:=Aside0.mk hbq19
         clear hbq19
         by_cases c20 : bq19 = true
         ·
          subst c20
          have H1 : (inquestlaw07_filled.l0 k1 l1 (wrap64 (x5_1 + 1)) (t104.length : Int) (wrap64 (x14_1 + 1)) t103 (y111.set (x14_1 : Int).toNat 1) t107) = some (r1,r2,r3):=by rw [if_pos rfl] at H;exact H
          clear H
          have H:=H1
          clear H1
          obtain ⟨y113,hy113⟩ : ∃ y_ : List Int,y_ = (y111.set (x14_1 : Int).toNat 1):=⟨_,rfl⟩
          replace H : (inquestlaw07_filled.l0 k1 l1 (wrap64 (x5_1 + 1)) (t104.length : Int) (wrap64 (x14_1 + 1)) t103 y113 t107) = some (r1,r2,r3):=by first|(rw [hy113];with_reducible exact H)|(have H2_:=(Option.bind_some _ _).symm.trans H;rw [hy113];with_reducible exact H2_)|(have H2_:=(Option.bind_some _ _).symm.trans H;with_reducible exact H2_)|with_reducible exact H|(rw [hy113];exact H)|exact H
          have Ny113:=Aside0.mk hy113
          clear hy113
          have H':=Aside0.mk H
          clear H
          have hnb22:=NB101_102.out
          have hnc22:=NB102_101.out
          have hcz23_0 : wr.cell? ⟨gb101,0,none⟩ = some (.int .i64 t103):=(blk_cell BK101.out 0).trans rfl
          have hcz23_1 : wr.cell? ⟨gb101,1,none⟩ = some (u102001):=(blk_cell BK101.out 1).trans rfl
          have hcz23_2 : wr.cell? ⟨gb101,2,none⟩ = some (.slice Ao11 t107.length co11):=(blk_cell BK101.out 2).trans rfl
          have hfz23_0:=blk_frozen BK101.out 0
          have hfz23_1:=blk_frozen BK101.out 1
          have hfz23_2:=blk_frozen BK101.out 2
          obtain ⟨Ao24,co24,eo24⟩:=Kd.R_slice HO_102001.out
          subst eo24
          have p110 : 0 ≤ (x14_1 : Int):=of_decide_eq_true (by first|(with_reducible assumption)|assumption)
          have q110 : x14_1 < (x102001_1.length : Int):=of_decide_eq_true (by first|(with_reducible assumption)|assumption)
          obtain ⟨ad110,e110,hx110_0⟩:=Kd.at_int (Kd.R_reads' HO_102001.out).2.2 x14_1 p110 q110
          cases e110
          replace p110:=eq_true p110
          replace q110:=eq_true q110
          have p16 : 0 ≤ (x14_1 : Int):=of_decide_eq_true (by first|(with_reducible assumption)|assumption)
          have q16 : (x14_1 : Int) < ((x102001_1.length : Int) : Int):=of_decide_eq_true (by first|(with_reducible assumption)|assumption)
          obtain ⟨go16,co16,eo16,gb16,gl16,cl16,HG16⟩:=Kd.R_form HO_102001.out (by omega)
          (first|cases eo16|(injection eo16 with ea_ en_ ec_;(first|subst ea_|(injection ea_ with ea_;subst ea_));subst ec_;clear en_))
          have GB16:=Aside0.mk gb16
          have GG16:=Aside0.mk HG16
          clear gb16 gl16 HG16
          (first|simp only [add_plain] at hx110_0|skip)
          obtain ⟨hx16_0,hf16_0⟩:=Kd.R_celln 0 HO_102001.out (x14_1 : Int) p16 q16
          replace p16:=eq_true p16
          replace q16:=eq_true q16
          have HP25:=Kd.R_putg HO_102001.out (x14_1 : Int) 0
          go_wp2_with (first|((with_reducible refine gate_store (t:=5) (p:=26) rfl ?_);refine store_event (t:=5) (p:=26) (v:=?vo_w26) (w1:=(wr.setCell ⟨go16,(x14_1 : Int).toNat,none⟩ (.int .u8 0))) ?hg ?ho ?hn ?hr ?_;(case ho => rfl);(case hg => rfl);(case hn => rfl);(case hr => first|(go_simp;done)|(go_simp;rfl));intro w26 hw;have hg : wr.grownBy w26 (some go16):=(by rw [hw];exact HP25.2);have hp_ : Kd.R (Kd.int .u8) 5 w26 w.heap.size (fun _ => True) (.slice (some ⟨go16,0,none⟩) x102001_1.length co24) y111:=(by rw [hw,Ny111.out];exact HP25.1);clear HP25;have n0_:=Aside0.mk (hp_);have n1_:=Aside0.mk (Kd.S_after (v:=(.slice (some ⟨go16,0,none⟩) x102001_1.length co24)) (v1:=(.slice (some ⟨go16,0,none⟩) x102001_1.length co24)) (ok:=(fun _ => True)) (by (with_reducible repeat (first|apply Kd.S_alloc|apply Kd.S_drewN|apply Kd.S_drew));exact Kd.S_mono HO_102002.out (fun _ hk => ⟨trivial,hk⟩)) hg (.inl rfl));have n2_:=Aside0.mk (blk_grown (g:=gb101) (o:=.cells #[.int .i64 t103,.slice (some ⟨go16,0,none⟩) x102001_1.length co24,.slice Ao11 t107.length co11] 30 (0,0)) (by (with_reducible repeat (first|refine blk_drewN ?_ _|refine blk_drew ?_|refine blk_alloc ?_ _));exact BK101.out) hg (Kd.R_ne HO_102001.out BK101.out (by decide)));have n3_:=Aside0.mk (blk_grown (g:=gb102) (o:=.cells #[.int .i64 0,.slice none 0 0,.slice none 0 0] 30 (0,0)) (by (with_reducible repeat (first|refine blk_drewN ?_ _|refine blk_drew ?_|refine blk_alloc ?_ _));exact BK102.out) hg (Kd.R_ne HO_102001.out BK102.out (by decide)));have n4_:=Aside0.mk ((by rw [hw];exact below_set (HB.out) GB16.out : Below w.heap.size w w26));clear HO_102001;clear HO_102002;clear BK101;clear BK102;clear HB;have HO_102001:=n0_;have HO_102002:=n1_;have BK101:=n2_;have BK102:=n3_;have HB:=n4_;clear n0_ n1_ n2_ n3_ n4_;clear hg hw hp_;have p112 : 0 ≤ (x5_1 : Int):=of_decide_eq_true (by first|(with_reducible assumption)|assumption);have q112 : x5_1 < (l1.length : Int):=of_decide_eq_true (by first|(with_reducible assumption)|assumption);obtain ⟨ad112,e112,hx112_0⟩:=Kd.at_bool HR1.out x5_1 p112 q112;(try rw [← Nbq19.out] at hx112_0);cases e112;replace hx112_0:=(HB.out.cell (World.block_lt_of_cell? w _ hx112_0)).trans hx112_0;replace p112:=eq_true p112;replace q112:=eq_true q112;have hcz27_0 : w26.cell? ⟨gb101,0,none⟩ = some (.int .i64 t103):=(blk_cell BK101.out 0).trans rfl;have hcz27_1 : w26.cell? ⟨gb101,1,none⟩ = some (.slice (some ⟨go16,0,none⟩) x102001_1.length co24):=(blk_cell BK101.out 1).trans rfl;have hcz27_2 : w26.cell? ⟨gb101,2,none⟩ = some (.slice Ao11 t107.length co11):=(blk_cell BK101.out 2).trans rfl;have hfz27_0:=blk_frozen BK101.out 0;have hfz27_1:=blk_frozen BK101.out 1;have hfz27_2:=blk_frozen BK101.out 2;have p21 : 0 ≤ (x14_1 : Int):=of_decide_eq_true (by first|(with_reducible assumption)|assumption);have q21 : (x14_1 : Int) < ((x102001_1.length : Int) : Int):=of_decide_eq_true (by first|(with_reducible assumption)|assumption);obtain ⟨hx21_0,hf21_0⟩:=Kd.R_celln 0 HO_102001.out (x14_1 : Int) p21 q21;replace p21:=eq_true p21;replace q21:=eq_true q21;obtain ⟨hy28_,hz28_⟩:=Kd.R_celln 0 HO_102001.out (x14_1 : Int) (of_decide_eq_true (by first|(with_reducible assumption)|assumption)) (of_decide_eq_true (by first|(with_reducible assumption)|assumption));have HP28:=Kd.R_putg HO_102001.out (x14_1 : Int) 1)|((with_reducible refine gate_store (t:=5) (p:=40) rfl ?_);refine store_event (t:=5) (p:=40) (v:=?vo_w29) (w1:=(w26.setCell ⟨go16,(x14_1 : Int).toNat,none⟩ (.int .u8 1))) ?hg ?ho ?hn ?hr ?_;(case ho => rfl);(case hg => rfl);(case hn => rfl);(case hr => first|(go_simp;done)|(go_simp;rfl));intro w29 hw;have hg : w26.grownBy w29 (some go16):=(by rw [hw];exact HP28.2);have hp_ : Kd.R (Kd.int .u8) 5 w29 w.heap.size (fun _ => True) (.slice (some ⟨go16,0,none⟩) x102001_1.length co24) y113:=(by rw [hw,Ny113.out];exact HP28.1);clear HP28;have n0_:=Aside0.mk (hp_);have n1_:=Aside0.mk (Kd.S_after (v:=(.slice (some ⟨go16,0,none⟩) x102001_1.length co24)) (v1:=(.slice (some ⟨go16,0,none⟩) x102001_1.length co24)) (ok:=(fun _ => True)) (by (with_reducible repeat (first|apply Kd.S_alloc|apply Kd.S_drewN|apply Kd.S_drew));exact HO_102002.out) hg (.inl rfl));have n2_:=Aside0.mk (blk_grown (g:=gb101) (o:=.cells #[.int .i64 t103,.slice (some ⟨go16,0,none⟩) x102001_1.length co24,.slice Ao11 t107.length co11] 30 (0,0)) (by (with_reducible repeat (first|refine blk_drewN ?_ _|refine blk_drew ?_|refine blk_alloc ?_ _));exact BK101.out) hg (Kd.R_ne HO_102001.out BK101.out (by decide)));have n3_:=Aside0.mk (blk_grown (g:=gb102) (o:=.cells #[.int .i64 0,.slice none 0 0,.slice none 0 0] 30 (0,0)) (by (with_reducible repeat (first|refine blk_drewN ?_ _|refine blk_drew ?_|refine blk_alloc ?_ _));exact BK102.out) hg (Kd.R_ne HO_102001.out BK102.out (by decide)));have n4_:=Aside0.mk ((by rw [hw];exact below_set (HB.out) GB16.out : Below w.heap.size w w29));clear HO_102001;clear HO_102002;clear BK101;clear BK102;clear HB;have HO_102001:=n0_;have HO_102002:=n1_;have BK101:=n2_;have BK102:=n3_;have HB:=n4_;clear n0_ n1_ n2_ n3_ n4_;clear hg hw hp_))
          go_roundg k1
          case measure => have:=HK1.out;omega
          case rel => exact ⟨(wrap64 (x5_1 + 1)),(wrap64 (x14_1 + 1)),(y113),(.slice (some ⟨go16,0,none⟩) x102001_1.length co24),(by first|rfl|(simp;done)|(simp [*];done)),(by first|rfl|(simp;done)|(simp [*];done)),H',⟨by have:=HK1.out;omega⟩,⟨by (with_reducible repeat (first|apply Kd.R_alloc|apply Kd.R_drewN|apply Kd.R_drew));exact HO_102001.out⟩,⟨by (with_reducible repeat (first|apply Kd.S_alloc|apply Kd.S_drewN|apply Kd.S_drew));exact Kd.S_mono HO_102002.out (fun _ hk => hk.2)⟩,⟨by (with_reducible repeat (first|refine blk_drewN ?_ _|refine blk_drew ?_|refine blk_alloc ?_ _));exact BK101.out⟩,⟨by (with_reducible repeat (first|refine blk_drewN ?_ _|refine blk_drew ?_|refine blk_alloc ?_ _));exact BK102.out⟩,⟨by repeat (first|(with_reducible first|exact HB.out|apply below_alloc|apply pw_below_drewN|apply below_drew1|refine below_set ?_ GE101.out|refine below_set ?_ GE102.out)|exact HB.out)⟩⟩
         ·
          replace c20:=Bool.eq_false_iff.mpr c20
          subst c20
          have H1 : (inquestlaw07_filled.l0 k1 l1 (wrap64 (x5_1 + 1)) (t104.length : Int) (wrap64 (x14_1 + 1)) t103 y111 t107) = some (r1,r2,r3):=by rw [if_neg (show ¬ (false = true) by decide)] at H;exact H
          clear H
          have H:=H1
          clear H1
          have H':=Aside0.mk H
          clear H
          have hnb30:=NB101_102.out
          have hnc30:=NB102_101.out
          have hcz31_0 : wr.cell? ⟨gb101,0,none⟩ = some (.int .i64 t103):=(blk_cell BK101.out 0).trans rfl
          have hcz31_1 : wr.cell? ⟨gb101,1,none⟩ = some (u102001):=(blk_cell BK101.out 1).trans rfl
          have hcz31_2 : wr.cell? ⟨gb101,2,none⟩ = some (.slice Ao11 t107.length co11):=(blk_cell BK101.out 2).trans rfl
          have hfz31_0:=blk_frozen BK101.out 0
          have hfz31_1:=blk_frozen BK101.out 1
          have hfz31_2:=blk_frozen BK101.out 2
          obtain ⟨Ao32,co32,eo32⟩:=Kd.R_slice HO_102001.out
          subst eo32
          have p110 : 0 ≤ (x14_1 : Int):=of_decide_eq_true (by first|(with_reducible assumption)|assumption)
          have q110 : x14_1 < (x102001_1.length : Int):=of_decide_eq_true (by first|(with_reducible assumption)|assumption)
          obtain ⟨ad110,e110,hx110_0⟩:=Kd.at_int (Kd.R_reads' HO_102001.out).2.2 x14_1 p110 q110
          cases e110
          replace p110:=eq_true p110
          replace q110:=eq_true q110
          have p16 : 0 ≤ (x14_1 : Int):=of_decide_eq_true (by first|(with_reducible assumption)|assumption)
          have q16 : (x14_1 : Int) < ((x102001_1.length : Int) : Int):=of_decide_eq_true (by first|(with_reducible assumption)|assumption)
          obtain ⟨go16,co16,eo16,gb16,gl16,cl16,HG16⟩:=Kd.R_form HO_102001.out (by omega)
          (first|cases eo16|(injection eo16 with ea_ en_ ec_;(first|subst ea_|(injection ea_ with ea_;subst ea_));subst ec_;clear en_))
          have GB16:=Aside0.mk gb16
          have GG16:=Aside0.mk HG16
          clear gb16 gl16 HG16
          (first|simp only [add_plain] at hx110_0|skip)
          obtain ⟨hx16_0,hf16_0⟩:=Kd.R_celln 0 HO_102001.out (x14_1 : Int) p16 q16
          replace p16:=eq_true p16
          replace q16:=eq_true q16
          have HP33:=Kd.R_putg HO_102001.out (x14_1 : Int) 0
          go_wp2_with (first|((with_reducible refine gate_store (t:=5) (p:=26) rfl ?_);refine store_event (t:=5) (p:=26) (v:=?vo_w34) (w1:=(wr.setCell ⟨go16,(x14_1 : Int).toNat,none⟩ (.int .u8 0))) ?hg ?ho ?hn ?hr ?_;(case ho => rfl);(case hg => rfl);(case hn => rfl);(case hr => first|(go_simp;done)|(go_simp;rfl));intro w34 hw;have hg : wr.grownBy w34 (some go16):=(by rw [hw];exact HP33.2);have hp_ : Kd.R (Kd.int .u8) 5 w34 w.heap.size (fun _ => True) (.slice (some ⟨go16,0,none⟩) x102001_1.length co32) y111:=(by rw [hw,Ny111.out];exact HP33.1);clear HP33;have n0_:=Aside0.mk (hp_);have n1_:=Aside0.mk (Kd.S_after (v:=(.slice (some ⟨go16,0,none⟩) x102001_1.length co32)) (v1:=(.slice (some ⟨go16,0,none⟩) x102001_1.length co32)) (ok:=(fun _ => True)) (by (with_reducible repeat (first|apply Kd.S_alloc|apply Kd.S_drewN|apply Kd.S_drew));exact Kd.S_mono HO_102002.out (fun _ hk => ⟨trivial,hk⟩)) hg (.inl rfl));have n2_:=Aside0.mk (blk_grown (g:=gb101) (o:=.cells #[.int .i64 t103,.slice (some ⟨go16,0,none⟩) x102001_1.length co32,.slice Ao11 t107.length co11] 30 (0,0)) (by (with_reducible repeat (first|refine blk_drewN ?_ _|refine blk_drew ?_|refine blk_alloc ?_ _));exact BK101.out) hg (Kd.R_ne HO_102001.out BK101.out (by decide)));have n3_:=Aside0.mk (blk_grown (g:=gb102) (o:=.cells #[.int .i64 0,.slice none 0 0,.slice none 0 0] 30 (0,0)) (by (with_reducible repeat (first|refine blk_drewN ?_ _|refine blk_drew ?_|refine blk_alloc ?_ _));exact BK102.out) hg (Kd.R_ne HO_102001.out BK102.out (by decide)));have n4_:=Aside0.mk ((by rw [hw];exact below_set (HB.out) GB16.out : Below w.heap.size w w34));clear HO_102001;clear HO_102002;clear BK101;clear BK102;clear HB;have HO_102001:=n0_;have HO_102002:=n1_;have BK101:=n2_;have BK102:=n3_;have HB:=n4_;clear n0_ n1_ n2_ n3_ n4_;clear hg hw hp_;have p112 : 0 ≤ (x5_1 : Int):=of_decide_eq_true (by first|(with_reducible assumption)|assumption);have q112 : x5_1 < (l1.length : Int):=of_decide_eq_true (by first|(with_reducible assumption)|assumption);obtain ⟨ad112,e112,hx112_0⟩:=Kd.at_bool HR1.out x5_1 p112 q112;(try rw [← Nbq19.out] at hx112_0);cases e112;replace hx112_0:=(HB.out.cell (World.block_lt_of_cell? w _ hx112_0)).trans hx112_0;replace p112:=eq_true p112;replace q112:=eq_true q112))
          go_roundg k1
          case measure => have:=HK1.out;omega
          case rel => exact ⟨(wrap64 (x5_1 + 1)),(wrap64 (x14_1 + 1)),(y111),(.slice (some ⟨go16,0,none⟩) x102001_1.length co32),(by first|rfl|(simp;done)|(simp [*];done)),(by first|rfl|(simp;done)|(simp [*];done)),H',⟨by have:=HK1.out;omega⟩,⟨by (with_reducible repeat (first|apply Kd.R_alloc|apply Kd.R_drewN|apply Kd.R_drew));exact HO_102001.out⟩,⟨by (with_reducible repeat (first|apply Kd.S_alloc|apply Kd.S_drewN|apply Kd.S_drew));exact Kd.S_mono HO_102002.out (fun _ hk => hk.2)⟩,⟨by (with_reducible repeat (first|refine blk_drewN ?_ _|refine blk_drew ?_|refine blk_alloc ?_ _));exact BK101.out⟩,⟨by (with_reducible repeat (first|refine blk_drewN ?_ _|refine blk_drew ?_|refine blk_alloc ?_ _));exact BK102.out⟩,⟨by repeat (first|(with_reducible first|exact HB.out|apply below_alloc|apply pw_below_drewN|apply below_drew1|refine below_set ?_ GE101.out|refine below_set ?_ GE102.out)|exact HB.out)⟩⟩
        ·
         rw [if_neg c18] at H
         exact absurd H (by simp)
       ·
        rw [if_neg c17] at H
        have c17b0 : decide (x5_1 < (l1.length : Int)) = false:=decide_eq_false c17
        clear c17
        have H':=Aside0.mk H
        clear H
        have hnb35:=NB101_102.out
        have hnc35:=NB102_101.out
        have hcz36_0 : wr.cell? ⟨gb101,0,none⟩ = some (.int .i64 t103):=(blk_cell BK101.out 0).trans rfl
        have hcz36_1 : wr.cell? ⟨gb101,1,none⟩ = some (u102001):=(blk_cell BK101.out 1).trans rfl
        have hcz36_2 : wr.cell? ⟨gb101,2,none⟩ = some (.slice Ao11 t107.length co11):=(blk_cell BK101.out 2).trans rfl
        have hfz36_0:=blk_frozen BK101.out 0
        have hfz36_1:=blk_frozen BK101.out 1
        have hfz36_2:=blk_frozen BK101.out 2
        obtain ⟨Ao37,co37,eo37⟩:=Kd.R_slice HO_102001.out
        subst eo37
        have p110 : 0 ≤ (x14_1 : Int):=of_decide_eq_true (by first|(with_reducible assumption)|assumption)
        have q110 : x14_1 < (x102001_1.length : Int):=of_decide_eq_true (by first|(with_reducible assumption)|assumption)
        obtain ⟨ad110,e110,hx110_0⟩:=Kd.at_int (Kd.R_reads' HO_102001.out).2.2 x14_1 p110 q110
        cases e110
        replace p110:=eq_true p110
        replace q110:=eq_true q110
        have p16 : 0 ≤ (x14_1 : Int):=of_decide_eq_true (by first|(with_reducible assumption)|assumption)
        have q16 : (x14_1 : Int) < ((x102001_1.length : Int) : Int):=of_decide_eq_true (by first|(with_reducible assumption)|assumption)
        obtain ⟨go16,co16,eo16,gb16,gl16,cl16,HG16⟩:=Kd.R_form HO_102001.out (by omega)
        (first|cases eo16|(injection eo16 with ea_ en_ ec_;(first|subst ea_|(injection ea_ with ea_;subst ea_));subst ec_;clear en_))
        have GB16:=Aside0.mk gb16
        have GG16:=Aside0.mk HG16
        clear gb16 gl16 HG16
        (first|simp only [add_plain] at hx110_0|skip)
        obtain ⟨hx16_0,hf16_0⟩:=Kd.R_celln 0 HO_102001.out (x14_1 : Int) p16 q16
        replace p16:=eq_true p16
        replace q16:=eq_true q16
        have HP38:=Kd.R_putg HO_102001.out (x14_1 : Int) 0
        go_wp2_with (first|((with_reducible refine gate_store (t:=5) (p:=26) rfl ?_);refine store_event (t:=5) (p:=26) (v:=?vo_w39) (w1:=(wr.setCell ⟨go16,(x14_1 : Int).toNat,none⟩ (.int .u8 0))) ?hg ?ho ?hn ?hr ?_;(case ho => rfl);(case hg => rfl);(case hn => rfl);(case hr => first|(go_simp;done)|(go_simp;rfl));intro w39 hw;have hg : wr.grownBy w39 (some go16):=(by rw [hw];exact HP38.2);have hp_ : Kd.R (Kd.int .u8) 5 w39 w.heap.size (fun _ => True) (.slice (some ⟨go16,0,none⟩) x102001_1.length co37) y111:=(by rw [hw,Ny111.out];exact HP38.1);clear HP38;have n0_:=Aside0.mk (hp_);have n1_:=Aside0.mk (Kd.S_after (v:=(.slice (some ⟨go16,0,none⟩) x102001_1.length co37)) (v1:=(.slice (some ⟨go16,0,none⟩) x102001_1.length co37)) (ok:=(fun _ => True)) (by (with_reducible repeat (first|apply Kd.S_alloc|apply Kd.S_drewN|apply Kd.S_drew));exact Kd.S_mono HO_102002.out (fun _ hk => ⟨trivial,hk⟩)) hg (.inl rfl));have n2_:=Aside0.mk (blk_grown (g:=gb101) (o:=.cells #[.int .i64 t103,.slice (some ⟨go16,0,none⟩) x102001_1.length co37,.slice Ao11 t107.length co11] 30 (0,0)) (by (with_reducible repeat (first|refine blk_drewN ?_ _|refine blk_drew ?_|refine blk_alloc ?_ _));exact BK101.out) hg (Kd.R_ne HO_102001.out BK101.out (by decide)));have n3_:=Aside0.mk (blk_grown (g:=gb102) (o:=.cells #[.int .i64 0,.slice none 0 0,.slice none 0 0] 30 (0,0)) (by (with_reducible repeat (first|refine blk_drewN ?_ _|refine blk_drew ?_|refine blk_alloc ?_ _));exact BK102.out) hg (Kd.R_ne HO_102001.out BK102.out (by decide)));have n4_:=Aside0.mk ((by rw [hw];exact below_set (HB.out) GB16.out : Below w.heap.size w w39));clear HO_102001;clear HO_102002;clear BK101;clear BK102;clear HB;have HO_102001:=n0_;have HO_102002:=n1_;have BK101:=n2_;have BK102:=n3_;have HB:=n4_;clear n0_ n1_ n2_ n3_ n4_;clear hg hw hp_))
        go_roundg k1
        case measure => have:=HK1.out;omega
        case rel => exact ⟨(wrap64 (x5_1 + 1)),(wrap64 (x14_1 + 1)),(y111),(.slice (some ⟨go16,0,none⟩) x102001_1.length co37),(by first|rfl|(simp;done)|(simp [*];done)),(by first|rfl|(simp;done)|(simp [*];done)),H',⟨by have:=HK1.out;omega⟩,⟨by (with_reducible repeat (first|apply Kd.R_alloc|apply Kd.R_drewN|apply Kd.R_drew));exact HO_102001.out⟩,⟨by (with_reducible repeat (first|apply Kd.S_alloc|apply Kd.S_drewN|apply Kd.S_drew));exact Kd.S_mono HO_102002.out (fun _ hk => hk.2)⟩,⟨by (with_reducible repeat (first|refine blk_drewN ?_ _|refine blk_drew ?_|refine blk_alloc ?_ _));exact BK101.out⟩,⟨by (with_reducible repeat (first|refine blk_drewN ?_ _|refine blk_drew ?_|refine blk_alloc ?_ _));exact BK102.out⟩,⟨by repeat (first|(with_reducible first|exact HB.out|apply below_alloc|apply pw_below_drewN|apply below_drew1|refine below_set ?_ GE101.out|refine below_set ?_ GE102.out)|exact HB.out)⟩⟩
      ·
       rw [if_neg c15] at H
       have c15b0 : ((rd x102001_1 x14_1) == 2) = false:=beq_eq_false_iff_ne.mpr c15
       have c15b1 : ((rd x102001_1 x14_1) != 2) = true:=bne_iff_ne.mpr c15
       have H':=Aside0.mk H
       clear H
       have hnb40:=NB101_102.out
       have hnc40:=NB102_101.out
       have hcz41_0 : wr.cell? ⟨gb101,0,none⟩ = some (.int .i64 t103):=(blk_cell BK101.out 0).trans rfl
       have hcz41_1 : wr.cell? ⟨gb101,1,none⟩ = some (u102001):=(blk_cell BK101.out 1).trans rfl
       have hcz41_2 : wr.cell? ⟨gb101,2,none⟩ = some (.slice Ao11 t107.length co11):=(blk_cell BK101.out 2).trans rfl
       have hfz41_0:=blk_frozen BK101.out 0
       have hfz41_1:=blk_frozen BK101.out 1
       have hfz41_2:=blk_frozen BK101.out 2
       obtain ⟨Ao42,co42,eo42⟩:=Kd.R_slice HO_102001.out
       subst eo42
       have p110 : 0 ≤ (x14_1 : Int):=of_decide_eq_true (by first|(with_reducible assumption)|assumption)
       have q110 : x14_1 < (x102001_1.length : Int):=of_decide_eq_true (by first|(with_reducible assumption)|assumption)
       obtain ⟨ad110,e110,hx110_0⟩:=Kd.at_int (Kd.R_reads' HO_102001.out).2.2 x14_1 p110 q110
       cases e110
       replace p110:=eq_true p110
       replace q110:=eq_true q110
       go_wp2
       go_roundg k1
       case measure => have:=HK1.out;omega
       case rel => exact ⟨(x5_1),(wrap64 (x14_1 + 1)),(x102001_1),(.slice (some ad110) x102001_1.length co42),(by first|rfl|(simp;done)|(simp [*];done)),(by first|rfl|(simp;done)|(simp [*];done)),H',⟨by have:=HK1.out;omega⟩,⟨by (with_reducible repeat (first|apply Kd.R_alloc|apply Kd.R_drewN|apply Kd.R_drew));exact HO_102001.out⟩,⟨by (with_reducible repeat (first|apply Kd.S_alloc|apply Kd.S_drewN|apply Kd.S_drew));exact HO_102002.out⟩,⟨by (with_reducible repeat (first|refine blk_drewN ?_ _|refine blk_drew ?_|refine blk_alloc ?_ _));exact BK101.out⟩,⟨by (with_reducible repeat (first|refine blk_drewN ?_ _|refine blk_drew ?_|refine blk_alloc ?_ _));exact BK102.out⟩,⟨by repeat (first|(with_reducible first|exact HB.out|apply below_alloc|apply pw_below_drewN|apply below_drew1|refine below_set ?_ GE101.out|refine below_set ?_ GE102.out)|exact HB.out)⟩⟩
     ·
      rw [if_neg c14] at H
      exact absurd H (by simp)
    ·
     rw [if_neg c13] at H
     exact absurd H (by simp)
   ·
    rw [if_neg c12] at H
    have c12b0 : decide (x14_1 < (t104.length : Int)) = false:=decide_eq_false c12
    clear c12
    have H':=Aside0.mk H
    clear H
    have hnb43:=NB101_102.out
    have hnc43:=NB102_101.out
    have hcz44_0 : wr.cell? ⟨gb101,0,none⟩ = some (.int .i64 t103):=(blk_cell BK101.out 0).trans rfl
    have hcz44_1 : wr.cell? ⟨gb101,1,none⟩ = some (u102001):=(blk_cell BK101.out 1).trans rfl
    have hcz44_2 : wr.cell? ⟨gb101,2,none⟩ = some (.slice Ao11 t107.length co11):=(blk_cell BK101.out 2).trans rfl
    have hfz44_0:=blk_frozen BK101.out 0
    have hfz44_1:=blk_frozen BK101.out 1
    have hfz44_2:=blk_frozen BK101.out 2
    go_wp2
    go_loopg [5,47] k1 (fun kq v5 v47 w' => ∃ (x5_2 : Int) (x47_2 : Int) (x102001_2 : List Int) (x102002_2 : List (List Int)) (u102001 : Value) (u102002 : Value),v5 = .int .i64 x5_2∧v47 = .int .i64 x47_2∧Aside0 (inquestlaw07_filled.l1 kq l1 x5_2 (t107.length : Int) x47_2 t103 x102001_2 x102002_2 = some (r1,r2,r3))∧Aside0 (kq ≤ k1)∧Aside0 (Kd.R (Kd.int .u8) 5 w' w.heap.size (fun _ => True) u102001 x102001_2)∧Aside0 (Kd.S (Kd.slice 5 (Kd.int .u8)) 27 w' w.heap.size (fun k_ => some k_ ≠ (u102001 : Value).ownBlock) u102002 x102002_2)∧Aside0 (w'.heap[gb101]? = some (.cells #[.int .i64 t103,u102001,u102002] 30 (0,0)))∧Aside0 (w'.heap[gb102]? = some (.cells #[.int .i64 0,(.slice none 0 0),(.slice none 0 0)] 30 (0,0)))∧Aside0 (Below w.heap.size w w'))
    case atStart => exact ⟨(x5_1),(0),(x102001_1),(t107),(u102001),(.slice Ao11 t107.length co11),(by first|rfl|(simp;done)|(simp [*];done)),(by first|rfl|(simp;done)|(simp [*];done)),H',⟨Nat.le_refl _⟩,⟨by (with_reducible repeat (first|apply Kd.R_alloc|apply Kd.R_drewN|apply Kd.R_drew));exact HO_102001.out⟩,⟨by (with_reducible repeat (first|apply Kd.S_alloc|apply Kd.S_drewN|apply Kd.S_drew));exact HO_102002.out⟩,⟨by (with_reducible repeat (first|refine blk_drewN ?_ _|refine blk_drew ?_|refine blk_alloc ?_ _));exact BK101.out⟩,⟨by (with_reducible repeat (first|refine blk_drewN ?_ _|refine blk_drew ?_|refine blk_alloc ?_ _));exact BK102.out⟩,⟨by repeat (first|(with_reducible first|exact HB.out|apply below_alloc|apply pw_below_drewN|apply below_drew1|refine below_set ?_ GE101.out|refine below_set ?_ GE102.out)|exact HB.out)⟩⟩
    case round =>
     clear H'
     try clear c1
     try clear p1
     try clear q1
     try clear hx1
     try clear c2
     try clear p2
     try clear q2
     try clear hx2
     try clear hf2
     try clear c3
     try clear c4
     try clear c6
     try clear p6
     try clear p11
     try clear q11
     try clear hx11
     try clear c12
     try clear c12b0
     try clear c13
     try clear c13b0
     try clear c14
     try clear c14b0
     try clear c15
     try clear c15b0
     try clear c15b1
     try clear p16
     try clear q16
     try clear hx16
     try clear hf16
     try clear c17
     try clear c17b0
     try clear c18
     try clear c18b0
     try clear q19
     try clear c20
     try clear c21
     try clear p21
     try clear q21
     try clear hx21
     try clear hf21
     try clear c22
     try clear c30
     try clear c35
     try clear c40
     try clear c43
     try clear hcz23_0
     try clear hcz23_1
     try clear hcz23_2
     try clear hcz27_0
     try clear hcz27_1
     try clear hcz27_2
     try clear hcz31_0
     try clear hcz31_1
     try clear hcz31_2
     try clear hcz36_0
     try clear hcz36_1
     try clear hcz36_2
     try clear hcz41_0
     try clear hcz41_1
     try clear hcz41_2
     try clear hcz44_0
     try clear hcz44_1
     try clear hcz44_2
     try clear hcz7_0
     try clear hcz7_1
     try clear hcz7_2
     try clear hcz9_0
     try clear hcz9_1
     try clear hcz9_2
     try clear hfz23_0
     try clear hfz23_1
     try clear hfz23_2
     try clear hfz27_0
     try clear hfz27_1
     try clear hfz27_2
     try clear hfz31_0
     try clear hfz31_1
     try clear hfz31_2
     try clear hfz36_0
     try clear hfz36_1
     try clear hfz36_2
     try clear hfz41_0
     try clear hfz41_1
     try clear hfz41_2
     try clear hfz44_0
     try clear hfz44_1
     try clear hfz44_2
     try clear hfz7_0
     try clear hfz7_1
     try clear hfz7_2
     try clear hfz9_0
     try clear hfz9_1
     try clear hfz9_2
     try clear hx110_0
     try clear hx112_0
     try clear hx16_0
     try clear hx21_0
     try clear p110
     try clear p112
     try clear p16
     try clear p2
     try clear p21
     try clear q110
     try clear q112
     try clear q16
     try clear q21
     obtain ⟨x5_2,x47_2,x102001_2,x102002_2,u102001,u102002,rfl,rfl,HA,HK2,HO_102001,HO_102002,BK101,BK102,HB⟩:=hrel
     cases gk with
     | zero => exact absurd HA.out (by simp [inquestlaw07_filled.l1])
     | succ k2 =>
      have H:=HA.out
      clear HA
      simp only [inquestlaw07_filled.l1] at H
      by_cases c45 : x47_2 < (t107.length : Int)
      ·
       rw [if_pos c45] at H
       have c45b0 : decide (x47_2 < (t107.length : Int)) = true:=decide_eq_true c45
       clear c45
       by_cases c46 : 0 ≤ x47_2
       ·
        rw [if_pos c46] at H
        have c46b0 : decide (0 ≤ x47_2) = true:=decide_eq_true c46
        clear c46
        by_cases c47 : x47_2 < (x102002_2.length : Int)
        ·
         rw [if_pos c47] at H
         have c47b0 : decide (x47_2 < (x102002_2.length : Int)) = true:=decide_eq_true c47
         clear c47
         have H':=Aside0.mk H
         clear H
         have hnb48:=NB101_102.out
         have hnc48:=NB102_101.out
         have hcz49_0 : wr.cell? ⟨gb101,0,none⟩ = some (.int .i64 t103):=(blk_cell BK101.out 0).trans rfl
         have hcz49_1 : wr.cell? ⟨gb101,1,none⟩ = some (u102001):=(blk_cell BK101.out 1).trans rfl
         have hcz49_2 : wr.cell? ⟨gb101,2,none⟩ = some (u102002):=(blk_cell BK101.out 2).trans rfl
         have hfz49_0:=blk_frozen BK101.out 0
         have hfz49_1:=blk_frozen BK101.out 1
         have hfz49_2:=blk_frozen BK101.out 2
         obtain ⟨Ao50,co50,eo50⟩:=Kd.S_slice HO_102002.out
         subst eo50
         have p114 : 0 ≤ (x47_2 : Int):=of_decide_eq_true (by first|(with_reducible assumption)|assumption)
         have q114 : x47_2 < (x102002_2.length : Int):=of_decide_eq_true (by first|(with_reducible assumption)|assumption)
         obtain ⟨ad114,A114_0,c114_0,e114,hx114_0,hl114_0,hi114_0⟩:=at_L4 (Kd.S_reads' HO_102002.out).2.2 x47_2 p114 q114
         cases e114
         obtain ⟨ce114,hce114,hMe114,hcc114⟩:=Kd.S_get HO_102002.out [] x47_2 p114 (by first|exact q114|exact of_decide_eq_true (by first|(with_reducible assumption)|assumption)|(have e_:=(Kd.S_reads' HO_102002.out).1;omega))
         obtain ⟨ve114_0,rfl,ge114_0⟩:=hMe114
         have hv114_0:=hcc114 0 _ rfl
         rw [Nat.add_zero,show ((Kd.slice 5 (Kd.int .u8))).sz = 1 from rfl,Nat.mul_one] at hv114_0
         replace hv114_0:=Option.some.inj (hv114_0.symm.trans hx114_0)
         rw [hv114_0] at ge114_0
         have HL114_0:=Aside0.mk (show Kd.R (Kd.int .u8) 5 _ _ _ _ (rd_L4 x102002_2 x47_2) from ge114_0)
         clear hv114_0 ge114_0
         have HX114_0:=Aside0.mk hx114_0
         clear hcc114 hce114
         have HR114_0:=Aside0.mk hi114_0
         have HC114_0:=Aside0.mk hl114_0
         clear hi114_0 hl114_0
         replace p114:=eq_true p114
         replace q114:=eq_true q114
         go_wp2
         go_loopg [5,56] k2 (fun kq v5 v56 w' => ∃ (x5_3 : Int) (x56_3 : Int) (x102001_3 : List Int) (x102002_3 : List (List Int)) (u102001 : Value) (u102002 : Value),v5 = .int .i64 x5_3∧v56 = .int .i64 x56_3∧Aside0 (inquestlaw07_filled.l2 kq l1 x5_3 x47_2 (t107.length : Int) x47_2 ((rd_L4 x102002_2 x47_2).length : Int) x56_3 t103 x102001_3 x102002_3 = some (r1,r2,r3))∧Aside0 (kq ≤ k2)∧Aside0 (Kd.R (Kd.int .u8) 5 w' w.heap.size (fun _ => True) u102001 x102001_3)∧Aside0 (Kd.S (Kd.slice 5 (Kd.int .u8)) 27 w' w.heap.size (fun k_ => some k_ ≠ (u102001 : Value).ownBlock) u102002 x102002_3)∧Aside0 (w'.heap[gb101]? = some (.cells #[.int .i64 t103,u102001,u102002] 30 (0,0)))∧Aside0 (w'.heap[gb102]? = some (.cells #[.int .i64 0,(.slice none 0 0),(.slice none 0 0)] 30 (0,0)))∧Aside0 (Below w.heap.size w w'))
         case atStart => exact ⟨(x5_2),(0),(x102001_2),(x102002_2),(u102001),(.slice (some ad114) x102002_2.length co50),(by first|rfl|(simp;done)|(simp [*];done)),(by first|rfl|(simp;done)|(simp [*];done)),H',⟨Nat.le_refl _⟩,⟨by (with_reducible repeat (first|apply Kd.R_alloc|apply Kd.R_drewN|apply Kd.R_drew));exact HO_102001.out⟩,⟨by (with_reducible repeat (first|apply Kd.S_alloc|apply Kd.S_drewN|apply Kd.S_drew));exact HO_102002.out⟩,⟨by (with_reducible repeat (first|refine blk_drewN ?_ _|refine blk_drew ?_|refine blk_alloc ?_ _));exact BK101.out⟩,⟨by (with_reducible repeat (first|refine blk_drewN ?_ _|refine blk_drew ?_|refine blk_alloc ?_ _));exact BK102.out⟩,⟨by repeat (first|(with_reducible first|exact HB.out|apply below_alloc|apply pw_below_drewN|apply below_drew1|refine below_set ?_ GE101.out|refine below_set ?_ GE102.out)|exact HB.out)⟩⟩
         case round =>
          clear H'
          try clear c1
          try clear p1
          try clear q1
          try clear hx1
          try clear c2
          try clear p2
          try clear q2
          try clear hx2
          try clear hf2
          try clear c3
          try clear c4
          try clear c6
          try clear p6
          try clear c11
          try clear p11
          try clear q11
          try clear hx11
          try clear c12
          try clear c12b0
          try clear c13
          try clear c13b0
          try clear c14
          try clear c14b0
          try clear c15
          try clear c15b0
          try clear c15b1
          try clear p16
          try clear q16
          try clear hx16
          try clear hf16
          try clear c17
          try clear c17b0
          try clear c18
          try clear c18b0
          try clear q19
          try clear c20
          try clear c21
          try clear p21
          try clear q21
          try clear hx21
          try clear hf21
          try clear c22
          try clear c30
          try clear c35
          try clear c40
          try clear c43
          try clear c45
          try clear c45b0
          try clear c46
          try clear c46b0
          try clear c47
          try clear c47b0
          try clear c48
          try clear hcz23_0
          try clear hcz23_1
          try clear hcz23_2
          try clear hcz27_0
          try clear hcz27_1
          try clear hcz27_2
          try clear hcz31_0
          try clear hcz31_1
          try clear hcz31_2
          try clear hcz36_0
          try clear hcz36_1
          try clear hcz36_2
          try clear hcz41_0
          try clear hcz41_1
          try clear hcz41_2
          try clear hcz44_0
          try clear hcz44_1
          try clear hcz44_2
          try clear hcz49_0
          try clear hcz49_1
          try clear hcz49_2
          try clear hcz7_0
          try clear hcz7_1
          try clear hcz7_2
          try clear hcz9_0
          try clear hcz9_1
          try clear hcz9_2
          try clear hfz23_0
          try clear hfz23_1
          try clear hfz23_2
          try clear hfz27_0
          try clear hfz27_1
          try clear hfz27_2
          try clear hfz31_0
          try clear hfz31_1
          try clear hfz31_2
          try clear hfz36_0
          try clear hfz36_1
          try clear hfz36_2
          try clear hfz41_0
          try clear hfz41_1
          try clear hfz41_2
          try clear hfz44_0
          try clear hfz44_1
          try clear hfz44_2
          try clear hfz49_0
          try clear hfz49_1
          try clear hfz49_2
          try clear hfz7_0
          try clear hfz7_1
          try clear hfz7_2
          try clear hfz9_0
          try clear hfz9_1
          try clear hfz9_2
          try clear hx110_0
          try clear hx112_0
          try clear hx114_0
          try clear hx16_0
          try clear hx21_0
          try clear p1
          try clear p11
          try clear p110
          try clear p112
          try clear p114
          try clear p16
          try clear p2
          try clear p21
          try clear p6
          try clear q1
          try clear q11
          try clear q110
          try clear q112
          try clear q114
          try clear q16
          try clear q19
          try clear q2
          try clear q21
          obtain ⟨x5_3,x56_3,x102001_3,x102002_3,u102001,u102002,rfl,rfl,HA,HK3,HO_102001,HO_102002,BK101,BK102,HB⟩:=hrel
          cases gk with
          | zero => exact absurd HA.out (by simp [inquestlaw07_filled.l2])
          | succ k3 =>
           have H:=HA.out
           clear HA
           simp only [inquestlaw07_filled.l2] at H
           by_cases c51 : x56_3 < ((rd_L4 x102002_2 x47_2).length : Int)
           ·
            rw [if_pos c51] at H
            have c51b0 : decide (x56_3 < ((rd_L4 x102002_2 x47_2).length : Int)) = true:=decide_eq_true c51
            clear c51
            by_cases c52 : 0 ≤ x47_2
            ·
             rw [if_pos c52] at H
             have c52b0 : decide (0 ≤ x47_2) = true:=decide_eq_true c52
             clear c52
             by_cases c53 : x47_2 < (x102002_3.length : Int)
             ·
              rw [if_pos c53] at H
              have c53b0 : decide (x47_2 < (x102002_3.length : Int)) = true:=decide_eq_true c53
              clear c53
              by_cases c54 : 0 ≤ x56_3
              ·
               rw [if_pos c54] at H
               have c54b0 : decide (0 ≤ x56_3) = true:=decide_eq_true c54
               clear c54
               by_cases c55 : x56_3 < ((rd_L4 x102002_3 x47_2).length : Int)
               ·
                rw [if_pos c55] at H
                have c55b0 : decide (x56_3 < ((rd_L4 x102002_3 x47_2).length : Int)) = true:=decide_eq_true c55
                clear c55
                by_cases c56 : (rd (rd_L4 x102002_3 x47_2) x56_3) = 2
                ·
                 rw [if_pos c56] at H
                 have c56b0 : ((rd (rd_L4 x102002_3 x47_2) x56_3) == 2) = true:=beq_iff_eq.mpr c56
                 have c56b1 : ((rd (rd_L4 x102002_3 x47_2) x56_3) != 2) = false:=bne_eq_false_iff_eq.mpr c56
                 clear c56
                 obtain ⟨y118,hy118⟩ : ∃ y_ : List Int,y_ = ((rd_L4 x102002_3 x47_2).set (x56_3 : Int).toNat 0):=⟨_,rfl⟩
                 replace H : ((some (x102002_3.set (x47_2 : Int).toNat y118 : List (List Int))).bind fun y120 => (if x5_3 < (l1.length : Int) then (if 0 ≤ x5_3 then (if rdOf false l1 x5_3 = true then (if x56_3 < ((rd_L4 y120 x47_2).length : Int) then (inquestlaw07_filled.l2 k3 l1 (wrap64 (x5_3 + 1)) x47_2 (t107.length : Int) x47_2 ((rd_L4 x102002_2 x47_2).length : Int) (wrap64 (x56_3 + 1)) t103 x102001_3 (y120.set (x47_2 : Int).toNat ((rd_L4 y120 x47_2).set (x56_3 : Int).toNat 1))) else (none)) else (inquestlaw07_filled.l2 k3 l1 (wrap64 (x5_3 + 1)) x47_2 (t107.length : Int) x47_2 ((rd_L4 x102002_2 x47_2).length : Int) (wrap64 (x56_3 + 1)) t103 x102001_3 y120)) else (none)) else (inquestlaw07_filled.l2 k3 l1 (wrap64 (x5_3 + 1)) x47_2 (t107.length : Int) x47_2 ((rd_L4 x102002_2 x47_2).length : Int) (wrap64 (x56_3 + 1)) t103 x102001_3 y120))) = some (r1,r2,r3):=by first|(rw [hy118];with_reducible exact H)|(have H2_:=(Option.bind_some _ _).symm.trans H;rw [hy118];with_reducible exact H2_)|(have H2_:=(Option.bind_some _ _).symm.trans H;with_reducible exact H2_)|with_reducible exact H|(rw [hy118];exact H)|exact H
                 have Ny118:=Aside0.mk hy118
                 clear hy118
                 obtain ⟨y120,hy120⟩ : ∃ y_ : List (List Int),y_ = (x102002_3.set (x47_2 : Int).toNat y118):=⟨_,rfl⟩
                 replace H : (if x5_3 < (l1.length : Int) then (if 0 ≤ x5_3 then (if rdOf false l1 x5_3 = true then (if x56_3 < ((rd_L4 y120 x47_2).length : Int) then (inquestlaw07_filled.l2 k3 l1 (wrap64 (x5_3 + 1)) x47_2 (t107.length : Int) x47_2 ((rd_L4 x102002_2 x47_2).length : Int) (wrap64 (x56_3 + 1)) t103 x102001_3 (y120.set (x47_2 : Int).toNat ((rd_L4 y120 x47_2).set (x56_3 : Int).toNat 1))) else (none)) else (inquestlaw07_filled.l2 k3 l1 (wrap64 (x5_3 + 1)) x47_2 (t107.length : Int) x47_2 ((rd_L4 x102002_2 x47_2).length : Int) (wrap64 (x56_3 + 1)) t103 x102001_3 y120)) else (none)) else (inquestlaw07_filled.l2 k3 l1 (wrap64 (x5_3 + 1)) x47_2 (t107.length : Int) x47_2 ((rd_L4 x102002_2 x47_2).length : Int) (wrap64 (x56_3 + 1)) t103 x102001_3 y120)) = some (r1,r2,r3):=by first|(rw [hy120];with_reducible exact H)|(have H2_:=(Option.bind_some _ _).symm.trans H;rw [hy120];with_reducible exact H2_)|(have H2_:=(Option.bind_some _ _).symm.trans H;with_reducible exact H2_)|with_reducible exact H|(rw [hy120];exact H)|exact H
                 have Ny120:=Aside0.mk hy120
                 clear hy120
                 by_cases c58 : x5_3 < (l1.length : Int)
                 ·
                  rw [if_pos c58] at H
                  have c58b0 : decide (x5_3 < (l1.length : Int)) = true:=decide_eq_true c58
                  clear c58
                  by_cases c59 : 0 ≤ x5_3
                  ·
                   rw [if_pos c59] at H
                   have c59b0 : decide (0 ≤ x5_3) = true:=decide_eq_true c59
                   clear c59
                   obtain ⟨bq60,hbq60⟩ : ∃ b_ : Bool,b_ = (rdOf false l1 x5_3):=⟨_,rfl⟩
                   replace H : (if bq60 = true then (if x56_3 < ((rd_L4 y120 x47_2).length : Int) then (inquestlaw07_filled.l2 k3 l1 (wrap64 (x5_3 + 1)) x47_2 (t107.length : Int) x47_2 ((rd_L4 x102002_2 x47_2).length : Int) (wrap64 (x56_3 + 1)) t103 x102001_3 (y120.set (x47_2 : Int).toNat ((rd_L4 y120 x47_2).set (x56_3 : Int).toNat 1))) else (none)) else (inquestlaw07_filled.l2 k3 l1 (wrap64 (x5_3 + 1)) x47_2 (t107.length : Int) x47_2 ((rd_L4 x102002_2 x47_2).length : Int) (wrap64 (x56_3 + 1)) t103 x102001_3 y120)) = some (r1,r2,r3):=by rw [← hbq60] at H;exact H
                   have Nbq60:=Aside0.mk hbq60
                   clear hbq60
                   by_cases c61 : bq60 = true
                   ·
                    subst c61
                    have H1 : (if x56_3 < ((rd_L4 y120 x47_2).length : Int) then (inquestlaw07_filled.l2 k3 l1 (wrap64 (x5_3 + 1)) x47_2 (t107.length : Int) x47_2 ((rd_L4 x102002_2 x47_2).length : Int) (wrap64 (x56_3 + 1)) t103 x102001_3 (y120.set (x47_2 : Int).toNat ((rd_L4 y120 x47_2).set (x56_3 : Int).toNat 1))) else (none)) = some (r1,r2,r3):=by rw [if_pos rfl] at H;exact H
                    clear H
                    have H:=H1
                    clear H1
                    by_cases c62 : x56_3 < ((rd_L4 y120 x47_2).length : Int)
                    ·
                     rw [if_pos c62] at H
                     have c62b0 : decide (x56_3 < ((rd_L4 y120 x47_2).length : Int)) = true:=decide_eq_true c62
                     clear c62
                     obtain ⟨y123,hy123⟩ : ∃ y_ : List Int,y_ = ((rd_L4 y120 x47_2).set (x56_3 : Int).toNat 1):=⟨_,rfl⟩
                     replace H : (inquestlaw07_filled.l2 k3 l1 (wrap64 (x5_3 + 1)) x47_2 (t107.length : Int) x47_2 ((rd_L4 x102002_2 x47_2).length : Int) (wrap64 (x56_3 + 1)) t103 x102001_3 (y120.set (x47_2 : Int).toNat y123)) = some (r1,r2,r3):=by first|(rw [hy123];with_reducible exact H)|(have H2_:=(Option.bind_some _ _).symm.trans H;rw [hy123];with_reducible exact H2_)|(have H2_:=(Option.bind_some _ _).symm.trans H;with_reducible exact H2_)|with_reducible exact H|(rw [hy123];exact H)|exact H
                     have Ny123:=Aside0.mk hy123
                     clear hy123
                     obtain ⟨y125,hy125⟩ : ∃ y_ : List (List Int),y_ = (y120.set (x47_2 : Int).toNat y123):=⟨_,rfl⟩
                     replace H : (inquestlaw07_filled.l2 k3 l1 (wrap64 (x5_3 + 1)) x47_2 (t107.length : Int) x47_2 ((rd_L4 x102002_2 x47_2).length : Int) (wrap64 (x56_3 + 1)) t103 x102001_3 y125) = some (r1,r2,r3):=by first|(rw [hy125];with_reducible exact H)|(have H2_:=(Option.bind_some _ _).symm.trans H;rw [hy125];with_reducible exact H2_)|(have H2_:=(Option.bind_some _ _).symm.trans H;with_reducible exact H2_)|with_reducible exact H|(rw [hy125];exact H)|exact H
                     have Ny125:=Aside0.mk hy125
                     clear hy125
                     have H':=Aside0.mk H
                     clear H
                     have hnb64:=NB101_102.out
                     have hnc64:=NB102_101.out
                     have hcz65_0 : wr.cell? ⟨gb101,0,none⟩ = some (.int .i64 t103):=(blk_cell BK101.out 0).trans rfl
                     have hcz65_1 : wr.cell? ⟨gb101,1,none⟩ = some (u102001):=(blk_cell BK101.out 1).trans rfl
                     have hcz65_2 : wr.cell? ⟨gb101,2,none⟩ = some (u102002):=(blk_cell BK101.out 2).trans rfl
                     have hfz65_0:=blk_frozen BK101.out 0
                     have hfz65_1:=blk_frozen BK101.out 1
                     have hfz65_2:=blk_frozen BK101.out 2
                     obtain ⟨Ao66,co66,eo66⟩:=Kd.S_slice HO_102002.out
                     subst eo66
                     have p115 : 0 ≤ (x47_2 : Int):=of_decide_eq_true (by first|(with_reducible assumption)|assumption)
                     have q115 : x47_2 < (x102002_3.length : Int):=of_decide_eq_true (by first|(with_reducible assumption)|assumption)
                     obtain ⟨ad115,A115_0,c115_0,e115,hx115_0,hl115_0,hi115_0⟩:=at_L4 (Kd.S_reads' HO_102002.out).2.2 x47_2 p115 q115
                     cases e115
                     obtain ⟨ce115,hce115,hMe115,hcc115⟩:=Kd.S_get HO_102002.out [] x47_2 p115 (by first|exact q115|exact of_decide_eq_true (by first|(with_reducible assumption)|assumption)|(have e_:=(Kd.S_reads' HO_102002.out).1;omega))
                     obtain ⟨ve115_0,rfl,ge115_0⟩:=hMe115
                     have hv115_0:=hcc115 0 _ rfl
                     rw [Nat.add_zero,show ((Kd.slice 5 (Kd.int .u8))).sz = 1 from rfl,Nat.mul_one] at hv115_0
                     replace hv115_0:=Option.some.inj (hv115_0.symm.trans hx115_0)
                     rw [hv115_0] at ge115_0
                     have HL115_0:=Aside0.mk (show Kd.R (Kd.int .u8) 5 _ _ _ _ (rd_L4 x102002_3 x47_2) from ge115_0)
                     clear hv115_0 ge115_0
                     have HX115_0:=Aside0.mk hx115_0
                     clear hcc115 hce115
                     have HR115_0:=Aside0.mk hi115_0
                     have HC115_0:=Aside0.mk hl115_0
                     clear hi115_0 hl115_0
                     replace p115:=eq_true p115
                     replace q115:=eq_true q115
                     have p116 : 0 ≤ (x56_3 : Int):=of_decide_eq_true (by first|(with_reducible assumption)|assumption)
                     have q116 : x56_3 < ((rd_L4 x102002_3 x47_2).length : Int):=of_decide_eq_true (by first|(with_reducible assumption)|assumption)
                     obtain ⟨ad116,e116,hx116_0⟩:=Kd.at_int (by repeat (first|(with_reducible exact HR115_0.out)|(with_reducible refine Kd.C_alloc ?_ _)|(with_reducible refine Kd.C_drewN ?_ _)|(with_reducible refine Kd.C_drew ?_)|exact HR115_0.out)) x56_3 p116 q116
                     cases e116
                     replace p116:=eq_true p116
                     replace q116:=eq_true q116
                     have p117 : 0 ≤ (x47_2 : Int):=of_decide_eq_true (by first|(with_reducible assumption)|assumption)
                     have q117 : x47_2 < (x102002_3.length : Int):=of_decide_eq_true (by first|(with_reducible assumption)|assumption)
                     obtain ⟨ad117,A117_0,c117_0,e117,hx117_0,hl117_0,hi117_0⟩:=at_L4 (Kd.S_reads' HO_102002.out).2.2 x47_2 p117 q117
                     obtain rfl : ad115 = ad117:=(by injection e117)
                     obtain ⟨ce117,hce117,hMe117,hcc117⟩:=Kd.S_get HO_102002.out [] x47_2 p117 (by first|exact q117|exact of_decide_eq_true (by first|(with_reducible assumption)|assumption)|(have e_:=(Kd.S_reads' HO_102002.out).1;omega))
                     obtain ⟨ve117_0,rfl,ge117_0⟩:=hMe117
                     have hv117_0:=hcc117 0 _ rfl
                     rw [Nat.add_zero,show ((Kd.slice 5 (Kd.int .u8))).sz = 1 from rfl,Nat.mul_one] at hv117_0
                     replace hv117_0:=Option.some.inj (hv117_0.symm.trans hx117_0)
                     rw [hv117_0] at ge117_0
                     have HL117_0:=Aside0.mk (show Kd.R (Kd.int .u8) 5 _ _ _ _ (rd_L4 x102002_3 x47_2) from ge117_0)
                     clear hv117_0 ge117_0
                     have HX117_0:=Aside0.mk hx117_0
                     clear hcc117 hce117
                     have HR117_0:=Aside0.mk hi117_0
                     have HC117_0:=Aside0.mk hl117_0
                     clear hi117_0 hl117_0
                     replace p117:=eq_true p117
                     replace q117:=eq_true q117
                     have ea_:=Option.some.inj (hx115_0.symm.trans hx117_0)
                     injection ea_ with ea_ en_ ec_
                     subst ea_
                     subst ec_
                     clear en_
                     have p57 : 0 ≤ (x56_3 : Int):=of_decide_eq_true (by first|(with_reducible assumption)|assumption)
                     have q57 : (x56_3 : Int) < (((rd_L4 x102002_3 x47_2).length : Int) : Int):=of_decide_eq_true (by first|(with_reducible assumption)|assumption)
                     obtain ⟨go57,co57,eo57,gb57,gl57,cl57,HG57⟩:=Kd.R_form HL117_0.out (by omega)
                     (first|cases eo57|(injection eo57 with ea_ en_ ec_;(first|subst ea_|(injection ea_ with ea_;subst ea_));subst ec_;clear en_))
                     have GB57:=Aside0.mk gb57
                     have GG57:=Aside0.mk HG57
                     clear gb57 gl57 HG57
                     (first|simp only [add_plain] at hx116_0|skip)
                     obtain ⟨hx57_0,hf57_0⟩:=Kd.R_celln 0 HL117_0.out (x56_3 : Int) p57 q57
                     replace p57:=eq_true p57
                     replace q57:=eq_true q57
                     have hq67 : (x47_2 : Int) < (x102002_3.length : Int):=(by have h_ : (x47_2 : Int) < ((x102002_3.length : Int) : Int):=of_decide_eq_true (by first|(with_reducible assumption)|assumption);first|exact h_|(have e_:=(Kd.S_reads' HO_102002.out).1;omega)|simpa only [List.length_set,List.length_set] using h_)
                     obtain ⟨oki67,ce67,hcl67,hM67,hcc67,hok67,hbk67⟩:=Kd.S_borrow HO_102002.out [] (x47_2 : Int) (of_decide_eq_true (by first|(with_reducible assumption)|assumption)) (by first|exact hq67|(have e_:=(Kd.S_reads' HO_102002.out).1;omega))
                     obtain ⟨ve67_0,rfl,ge67_0⟩:=hM67
                     have hv67:=hcc67 0 _ rfl
                     rw [Nat.add_zero,show ((Kd.slice 5 (Kd.int .u8))).sz = 1 from rfl,Nat.mul_one] at hv67
                     replace hv67:=Option.some.inj (hv67.symm.trans HX117_0.out)
                     subst hv67
                     clear hcc67 hcl67
                     replace ge67_0:=(show Kd.R (Kd.int .u8) 5 _ _ _ _ (rd_L4 x102002_3 x47_2) from ge67_0)
                     have HP67:=Kd.R_putg ge67_0 (x56_3 : Int) 0
                     go_wp2_with (first|((with_reducible refine gate_store (t:=5) (p:=74) rfl ?_);refine store_event (t:=5) (p:=74) (v:=?vo_w68) (w1:=(wr.setCell ⟨go57,(x56_3 : Int).toNat,none⟩ (.int .u8 0))) ?hg ?ho ?hn ?hr ?_;(case ho => rfl);(case hg => rfl);(case hn => rfl);(case hr => first|(go_simp;done)|(go_simp;rfl));intro w68 hw;have hg : wr.grownBy w68 (some go57):=(by rw [hw];exact HP67.2);have hz_ : Kd.R (Kd.int .u8) 5 w68 w.heap.size oki67 (.slice (some ⟨go57,0,none⟩) (rd_L4 x102002_3 x47_2).length c115_0) y118:=(by rw [hw,Ny118.out];exact HP67.1);have hp_ : Kd.S (Kd.slice 5 (Kd.int .u8)) 27 w68 w.heap.size (fun k_ => some k_ ≠ (u102001 : Value).ownBlock) (.slice (some ad115) x102002_3.length co66) y120:=(by rw [Ny120.out];exact hbk67 hg (fun k_ e_ => by injection e_ with e_;subst e_;exact ge67_0.1 _ rfl) (Kd.M_row hz_));have hm_:=Kd.R_mono hz_ hok67;clear HP67 hbk67;have n0_:=Aside0.mk (Kd.R_grown1 (by (with_reducible repeat (first|apply Kd.R_alloc|apply Kd.R_drewN|apply Kd.R_drew));exact HO_102001.out) rfl hg ((HL117_0.out.1 _ rfl).1));have n1_:=Aside0.mk (hp_);have n2_:=Aside0.mk (blk_grown (g:=gb101) (o:=.cells #[.int .i64 t103,u102001,.slice (some ad115) x102002_3.length co66] 30 (0,0)) (by (with_reducible repeat (first|refine blk_drewN ?_ _|refine blk_drew ?_|refine blk_alloc ?_ _));exact BK101.out) hg (Kd.R_ne HL117_0.out BK101.out (by decide)));have n3_:=Aside0.mk (blk_grown (g:=gb102) (o:=.cells #[.int .i64 0,.slice none 0 0,.slice none 0 0] 30 (0,0)) (by (with_reducible repeat (first|refine blk_drewN ?_ _|refine blk_drew ?_|refine blk_alloc ?_ _));exact BK102.out) hg (Kd.R_ne HL117_0.out BK102.out (by decide)));have n4_:=Aside0.mk ((by rw [hw];exact below_set (HB.out) GB57.out : Below w.heap.size w w68));have n5_:=Aside0.mk (hm_);have n6_:=Aside0.mk ((Kd.R_reads' hm_).2.1);clear HO_102001;clear HO_102002;clear BK101;clear BK102;clear HB;clear HL115_0;clear HL117_0;have HO_102001:=n0_;have HO_102002:=n1_;have BK101:=n2_;have BK102:=n3_;have HB:=n4_;have HL126:=n5_;have HC119:=n6_;clear n0_ n1_ n2_ n3_ n4_ n5_ n6_;clear hg hw hp_ hz_ hm_ hok67;have p121 : 0 ≤ (x5_3 : Int):=of_decide_eq_true (by first|(with_reducible assumption)|assumption);have q121 : x5_3 < (l1.length : Int):=of_decide_eq_true (by first|(with_reducible assumption)|assumption);obtain ⟨ad121,e121,hx121_0⟩:=Kd.at_bool HR1.out x5_3 p121 q121;(try rw [← Nbq60.out] at hx121_0);cases e121;replace hx121_0:=(HB.out.cell (World.block_lt_of_cell? w _ hx121_0)).trans hx121_0;replace p121:=eq_true p121;replace q121:=eq_true q121;have hcz69_0 : w68.cell? ⟨gb101,0,none⟩ = some (.int .i64 t103):=(blk_cell BK101.out 0).trans rfl;have hcz69_1 : w68.cell? ⟨gb101,1,none⟩ = some (u102001):=(blk_cell BK101.out 1).trans rfl;have hcz69_2 : w68.cell? ⟨gb101,2,none⟩ = some (.slice (some ad115) x102002_3.length co66):=(blk_cell BK101.out 2).trans rfl;have hfz69_0:=blk_frozen BK101.out 0;have hfz69_1:=blk_frozen BK101.out 1;have hfz69_2:=blk_frozen BK101.out 2;have p122 : 0 ≤ (x47_2 : Int):=of_decide_eq_true (by first|(with_reducible assumption)|assumption);have q122 : x47_2 < (y120.length : Int):=(by have h_ : (x47_2 : Int) < ((x102002_3.length : Int) : Int):=of_decide_eq_true (by first|(with_reducible assumption)|assumption);first|(have e_:=(Kd.S_reads' HO_102002.out).1;omega)|simpa only [Ny120.out,List.length_set] using h_);have ql122 : ((x47_2 : Int) < ((x102002_3.length : Int) : Int)) = True:=eq_true (of_decide_eq_true (by first|(with_reducible assumption)|assumption));obtain ⟨ad122,A122_0,c122_0,e122,hx122_0,hl122_0,hi122_0⟩:=at_L4 (Kd.S_reads' HO_102002.out).2.2 x47_2 p122 q122;obtain rfl : ad115 = ad122:=(by injection e122);obtain ⟨ce122,hce122,hMe122,hcc122⟩:=Kd.S_get HO_102002.out [] x47_2 p122 (by first|exact q122|exact of_decide_eq_true (by first|(with_reducible assumption)|assumption)|(have e_:=(Kd.S_reads' HO_102002.out).1;omega));obtain ⟨ve122_0,rfl,ge122_0⟩:=hMe122;have hv122_0:=hcc122 0 _ rfl;rw [Nat.add_zero,show ((Kd.slice 5 (Kd.int .u8))).sz = 1 from rfl,Nat.mul_one] at hv122_0;replace hv122_0:=Option.some.inj (hv122_0.symm.trans hx122_0);rw [hv122_0] at ge122_0;have HL122_0:=Aside0.mk (show Kd.R (Kd.int .u8) 5 _ _ _ _ (rd_L4 y120 x47_2) from ge122_0);clear hv122_0 ge122_0;have HX122_0:=Aside0.mk hx122_0;clear hcc122 hce122;have HR122_0:=Aside0.mk hi122_0;have HC122_0:=Aside0.mk hl122_0;clear hi122_0 hl122_0;replace p122:=eq_true p122;replace q122:=eq_true q122;have p63 : 0 ≤ (x56_3 : Int):=of_decide_eq_true (by first|(with_reducible assumption)|assumption);have q63 : (x56_3 : Int) < (((rd_L4 y120 x47_2).length : Int) : Int):=of_decide_eq_true (by first|(with_reducible assumption)|assumption);obtain ⟨go63,co63,eo63,gb63,gl63,cl63,HG63⟩:=Kd.R_form HL122_0.out (by omega);(first|cases eo63|(injection eo63 with ea_ en_ ec_;(first|subst ea_|(injection ea_ with ea_;subst ea_));subst ec_;clear en_));have GB63:=Aside0.mk gb63;have GG63:=Aside0.mk HG63;clear gb63 gl63 HG63;obtain ⟨hx63_0,hf63_0⟩:=Kd.R_celln 0 HL122_0.out (x56_3 : Int) p63 q63;replace p63:=eq_true p63;replace q63:=eq_true q63;have hq70 : (x47_2 : Int) < (y120.length : Int):=(by have h_ : (x47_2 : Int) < ((x102002_3.length : Int) : Int):=of_decide_eq_true (by first|(with_reducible assumption)|assumption);first|exact h_|(have e_:=(Kd.S_reads' HO_102002.out).1;omega)|simpa only [Ny120.out,List.length_set] using h_);obtain ⟨oki70,ce70,hcl70,hM70,hcc70,hok70,hbk70⟩:=Kd.S_borrow HO_102002.out [] (x47_2 : Int) (of_decide_eq_true (by first|(with_reducible assumption)|assumption)) (by first|exact hq70|(have e_:=(Kd.S_reads' HO_102002.out).1;omega));obtain ⟨ve70_0,rfl,ge70_0⟩:=hM70;have hv70:=hcc70 0 _ rfl;rw [Nat.add_zero,show ((Kd.slice 5 (Kd.int .u8))).sz = 1 from rfl,Nat.mul_one] at hv70;replace hv70:=Option.some.inj (hv70.symm.trans HX122_0.out);subst hv70;clear hcc70 hcl70;replace ge70_0:=(show Kd.R (Kd.int .u8) 5 _ _ _ _ (rd_L4 y120 x47_2) from ge70_0);have HP70:=Kd.R_putg ge70_0 (x56_3 : Int) 1)|((with_reducible refine gate_store (t:=5) (p:=91) rfl ?_);refine store_event (t:=5) (p:=91) (v:=?vo_w71) (w1:=(w68.setCell ⟨go63,(x56_3 : Int).toNat,none⟩ (.int .u8 1))) ?hg ?ho ?hn ?hr ?_;(case ho => rfl);(case hg => rfl);(case hn => rfl);(case hr => first|(go_simp;done)|(go_simp;rfl));intro w71 hw;have hg : w68.grownBy w71 (some go63):=(by rw [hw];exact HP70.2);have hz_ : Kd.R (Kd.int .u8) 5 w71 w.heap.size oki70 (.slice (some ⟨go63,0,none⟩) (rd_L4 y120 x47_2).length c122_0) y123:=(by rw [hw,Ny123.out];exact HP70.1);have hp_ : Kd.S (Kd.slice 5 (Kd.int .u8)) 27 w71 w.heap.size (fun k_ => some k_ ≠ (u102001 : Value).ownBlock) (.slice (some ad115) x102002_3.length co66) y125:=(by rw [Ny125.out];exact hbk70 hg (fun k_ e_ => by injection e_ with e_;subst e_;exact ge70_0.1 _ rfl) (Kd.M_row hz_));have hm_:=Kd.R_mono hz_ hok70;clear HP70 hbk70;have n0_:=Aside0.mk (Kd.R_grown1 (by (with_reducible repeat (first|apply Kd.R_alloc|apply Kd.R_drewN|apply Kd.R_drew));exact HO_102001.out) rfl hg ((HL122_0.out.1 _ rfl).1));have n1_:=Aside0.mk (hp_);have n2_:=Aside0.mk (blk_grown (g:=gb101) (o:=.cells #[.int .i64 t103,u102001,.slice (some ad115) x102002_3.length co66] 30 (0,0)) (by (with_reducible repeat (first|refine blk_drewN ?_ _|refine blk_drew ?_|refine blk_alloc ?_ _));exact BK101.out) hg (Kd.R_ne HL122_0.out BK101.out (by decide)));have n3_:=Aside0.mk (blk_grown (g:=gb102) (o:=.cells #[.int .i64 0,.slice none 0 0,.slice none 0 0] 30 (0,0)) (by (with_reducible repeat (first|refine blk_drewN ?_ _|refine blk_drew ?_|refine blk_alloc ?_ _));exact BK102.out) hg (Kd.R_ne HL122_0.out BK102.out (by decide)));have n4_:=Aside0.mk ((by rw [hw];exact below_set (HB.out) GB63.out : Below w.heap.size w w71));have n5_:=Aside0.mk (hm_);have n6_:=Aside0.mk ((Kd.R_reads' hm_).2.1);clear HO_102001;clear HO_102002;clear BK101;clear BK102;clear HB;clear HL126;clear HL122_0;have HO_102001:=n0_;have HO_102002:=n1_;have BK101:=n2_;have BK102:=n3_;have HB:=n4_;have HL127:=n5_;have HC124:=n6_;clear n0_ n1_ n2_ n3_ n4_ n5_ n6_;clear hg hw hp_ hz_ hm_ hok70))
                     go_roundg k3
                     case measure => have:=HK1.out;have:=HK2.out;have:=HK3.out;omega
                     case rel => exact ⟨(wrap64 (x5_3 + 1)),(wrap64 (x56_3 + 1)),(x102001_3),(y125),(u102001),(.slice (some ad115) x102002_3.length co66),(by first|rfl|(simp;done)|(simp [*];done)),(by first|rfl|(simp;done)|(simp [*];done)),H',⟨by have:=HK1.out;have:=HK2.out;have:=HK3.out;omega⟩,⟨by (with_reducible repeat (first|apply Kd.R_alloc|apply Kd.R_drewN|apply Kd.R_drew));exact HO_102001.out⟩,⟨by (with_reducible repeat (first|apply Kd.S_alloc|apply Kd.S_drewN|apply Kd.S_drew));exact HO_102002.out⟩,⟨by (with_reducible repeat (first|refine blk_drewN ?_ _|refine blk_drew ?_|refine blk_alloc ?_ _));exact BK101.out⟩,⟨by (with_reducible repeat (first|refine blk_drewN ?_ _|refine blk_drew ?_|refine blk_alloc ?_ _));exact BK102.out⟩,⟨by repeat (first|(with_reducible first|exact HB.out|apply below_alloc|apply pw_below_drewN|apply below_drew1|refine below_set ?_ GE101.out|refine below_set ?_ GE102.out)|exact HB.out)⟩⟩
                    ·
                     rw [if_neg c62] at H
                     exact absurd H (by simp)
                   ·
                    replace c61:=Bool.eq_false_iff.mpr c61
                    subst c61
                    have H1 : (inquestlaw07_filled.l2 k3 l1 (wrap64 (x5_3 + 1)) x47_2 (t107.length : Int) x47_2 ((rd_L4 x102002_2 x47_2).length : Int) (wrap64 (x56_3 + 1)) t103 x102001_3 y120) = some (r1,r2,r3):=by rw [if_neg (show ¬ (false = true) by decide)] at H;exact H
                    clear H
                    have H:=H1
                    clear H1
                    have H':=Aside0.mk H
                    clear H
                    have hnb72:=NB101_102.out
                    have hnc72:=NB102_101.out
                    have hcz73_0 : wr.cell? ⟨gb101,0,none⟩ = some (.int .i64 t103):=(blk_cell BK101.out 0).trans rfl
                    have hcz73_1 : wr.cell? ⟨gb101,1,none⟩ = some (u102001):=(blk_cell BK101.out 1).trans rfl
                    have hcz73_2 : wr.cell? ⟨gb101,2,none⟩ = some (u102002):=(blk_cell BK101.out 2).trans rfl
                    have hfz73_0:=blk_frozen BK101.out 0
                    have hfz73_1:=blk_frozen BK101.out 1
                    have hfz73_2:=blk_frozen BK101.out 2
                    obtain ⟨Ao74,co74,eo74⟩:=Kd.S_slice HO_102002.out
                    subst eo74
                    have p115 : 0 ≤ (x47_2 : Int):=of_decide_eq_true (by first|(with_reducible assumption)|assumption)
                    have q115 : x47_2 < (x102002_3.length : Int):=of_decide_eq_true (by first|(with_reducible assumption)|assumption)
                    obtain ⟨ad115,A115_0,c115_0,e115,hx115_0,hl115_0,hi115_0⟩:=at_L4 (Kd.S_reads' HO_102002.out).2.2 x47_2 p115 q115
                    cases e115
                    obtain ⟨ce115,hce115,hMe115,hcc115⟩:=Kd.S_get HO_102002.out [] x47_2 p115 (by first|exact q115|exact of_decide_eq_true (by first|(with_reducible assumption)|assumption)|(have e_:=(Kd.S_reads' HO_102002.out).1;omega))
                    obtain ⟨ve115_0,rfl,ge115_0⟩:=hMe115
                    have hv115_0:=hcc115 0 _ rfl
                    rw [Nat.add_zero,show ((Kd.slice 5 (Kd.int .u8))).sz = 1 from rfl,Nat.mul_one] at hv115_0
                    replace hv115_0:=Option.some.inj (hv115_0.symm.trans hx115_0)
                    rw [hv115_0] at ge115_0
                    have HL115_0:=Aside0.mk (show Kd.R (Kd.int .u8) 5 _ _ _ _ (rd_L4 x102002_3 x47_2) from ge115_0)
                    clear hv115_0 ge115_0
                    have HX115_0:=Aside0.mk hx115_0
                    clear hcc115 hce115
                    have HR115_0:=Aside0.mk hi115_0
                    have HC115_0:=Aside0.mk hl115_0
                    clear hi115_0 hl115_0
                    replace p115:=eq_true p115
                    replace q115:=eq_true q115
                    have p116 : 0 ≤ (x56_3 : Int):=of_decide_eq_true (by first|(with_reducible assumption)|assumption)
                    have q116 : x56_3 < ((rd_L4 x102002_3 x47_2).length : Int):=of_decide_eq_true (by first|(with_reducible assumption)|assumption)
                    obtain ⟨ad116,e116,hx116_0⟩:=Kd.at_int (by repeat (first|(with_reducible exact HR115_0.out)|(with_reducible refine Kd.C_alloc ?_ _)|(with_reducible refine Kd.C_drewN ?_ _)|(with_reducible refine Kd.C_drew ?_)|exact HR115_0.out)) x56_3 p116 q116
                    cases e116
                    replace p116:=eq_true p116
                    replace q116:=eq_true q116
                    have p117 : 0 ≤ (x47_2 : Int):=of_decide_eq_true (by first|(with_reducible assumption)|assumption)
                    have q117 : x47_2 < (x102002_3.length : Int):=of_decide_eq_true (by first|(with_reducible assumption)|assumption)
                    obtain ⟨ad117,A117_0,c117_0,e117,hx117_0,hl117_0,hi117_0⟩:=at_L4 (Kd.S_reads' HO_102002.out).2.2 x47_2 p117 q117
                    obtain rfl : ad115 = ad117:=(by injection e117)
                    obtain ⟨ce117,hce117,hMe117,hcc117⟩:=Kd.S_get HO_102002.out [] x47_2 p117 (by first|exact q117|exact of_decide_eq_true (by first|(with_reducible assumption)|assumption)|(have e_:=(Kd.S_reads' HO_102002.out).1;omega))
                    obtain ⟨ve117_0,rfl,ge117_0⟩:=hMe117
                    have hv117_0:=hcc117 0 _ rfl
                    rw [Nat.add_zero,show ((Kd.slice 5 (Kd.int .u8))).sz = 1 from rfl,Nat.mul_one] at hv117_0
                    replace hv117_0:=Option.some.inj (hv117_0.symm.trans hx117_0)
                    rw [hv117_0] at ge117_0
                    have HL117_0:=Aside0.mk (show Kd.R (Kd.int .u8) 5 _ _ _ _ (rd_L4 x102002_3 x47_2) from ge117_0)
                    clear hv117_0 ge117_0
                    have HX117_0:=Aside0.mk hx117_0
                    clear hcc117 hce117
                    have HR117_0:=Aside0.mk hi117_0
                    have HC117_0:=Aside0.mk hl117_0
                    clear hi117_0 hl117_0
                    replace p117:=eq_true p117
                    replace q117:=eq_true q117
                    have ea_:=Option.some.inj (hx115_0.symm.trans hx117_0)
                    injection ea_ with ea_ en_ ec_
                    subst ea_
                    subst ec_
                    clear en_
                    have p57 : 0 ≤ (x56_3 : Int):=of_decide_eq_true (by first|(with_reducible assumption)|assumption)
                    have q57 : (x56_3 : Int) < (((rd_L4 x102002_3 x47_2).length : Int) : Int):=of_decide_eq_true (by first|(with_reducible assumption)|assumption)
                    obtain ⟨go57,co57,eo57,gb57,gl57,cl57,HG57⟩:=Kd.R_form HL117_0.out (by omega)
                    (first|cases eo57|(injection eo57 with ea_ en_ ec_;(first|subst ea_|(injection ea_ with ea_;subst ea_));subst ec_;clear en_))
                    have GB57:=Aside0.mk gb57
                    have GG57:=Aside0.mk HG57
                    clear gb57 gl57 HG57
                    (first|simp only [add_plain] at hx116_0|skip)
                    obtain ⟨hx57_0,hf57_0⟩:=Kd.R_celln 0 HL117_0.out (x56_3 : Int) p57 q57
                    replace p57:=eq_true p57
                    replace q57:=eq_true q57
                    have hq75 : (x47_2 : Int) < (x102002_3.length : Int):=(by have h_ : (x47_2 : Int) < ((x102002_3.length : Int) : Int):=of_decide_eq_true (by first|(with_reducible assumption)|assumption);first|exact h_|(have e_:=(Kd.S_reads' HO_102002.out).1;omega)|simpa only [List.length_set,List.length_set] using h_)
                    obtain ⟨oki75,ce75,hcl75,hM75,hcc75,hok75,hbk75⟩:=Kd.S_borrow HO_102002.out [] (x47_2 : Int) (of_decide_eq_true (by first|(with_reducible assumption)|assumption)) (by first|exact hq75|(have e_:=(Kd.S_reads' HO_102002.out).1;omega))
                    obtain ⟨ve75_0,rfl,ge75_0⟩:=hM75
                    have hv75:=hcc75 0 _ rfl
                    rw [Nat.add_zero,show ((Kd.slice 5 (Kd.int .u8))).sz = 1 from rfl,Nat.mul_one] at hv75
                    replace hv75:=Option.some.inj (hv75.symm.trans HX117_0.out)
                    subst hv75
                    clear hcc75 hcl75
                    replace ge75_0:=(show Kd.R (Kd.int .u8) 5 _ _ _ _ (rd_L4 x102002_3 x47_2) from ge75_0)
                    have HP75:=Kd.R_putg ge75_0 (x56_3 : Int) 0
                    go_wp2_with (first|((with_reducible refine gate_store (t:=5) (p:=74) rfl ?_);refine store_event (t:=5) (p:=74) (v:=?vo_w76) (w1:=(wr.setCell ⟨go57,(x56_3 : Int).toNat,none⟩ (.int .u8 0))) ?hg ?ho ?hn ?hr ?_;(case ho => rfl);(case hg => rfl);(case hn => rfl);(case hr => first|(go_simp;done)|(go_simp;rfl));intro w76 hw;have hg : wr.grownBy w76 (some go57):=(by rw [hw];exact HP75.2);have hz_ : Kd.R (Kd.int .u8) 5 w76 w.heap.size oki75 (.slice (some ⟨go57,0,none⟩) (rd_L4 x102002_3 x47_2).length c115_0) y118:=(by rw [hw,Ny118.out];exact HP75.1);have hp_ : Kd.S (Kd.slice 5 (Kd.int .u8)) 27 w76 w.heap.size (fun k_ => some k_ ≠ (u102001 : Value).ownBlock) (.slice (some ad115) x102002_3.length co74) y120:=(by rw [Ny120.out];exact hbk75 hg (fun k_ e_ => by injection e_ with e_;subst e_;exact ge75_0.1 _ rfl) (Kd.M_row hz_));have hm_:=Kd.R_mono hz_ hok75;clear HP75 hbk75;have n0_:=Aside0.mk (Kd.R_grown1 (by (with_reducible repeat (first|apply Kd.R_alloc|apply Kd.R_drewN|apply Kd.R_drew));exact HO_102001.out) rfl hg ((HL117_0.out.1 _ rfl).1));have n1_:=Aside0.mk (hp_);have n2_:=Aside0.mk (blk_grown (g:=gb101) (o:=.cells #[.int .i64 t103,u102001,.slice (some ad115) x102002_3.length co74] 30 (0,0)) (by (with_reducible repeat (first|refine blk_drewN ?_ _|refine blk_drew ?_|refine blk_alloc ?_ _));exact BK101.out) hg (Kd.R_ne HL117_0.out BK101.out (by decide)));have n3_:=Aside0.mk (blk_grown (g:=gb102) (o:=.cells #[.int .i64 0,.slice none 0 0,.slice none 0 0] 30 (0,0)) (by (with_reducible repeat (first|refine blk_drewN ?_ _|refine blk_drew ?_|refine blk_alloc ?_ _));exact BK102.out) hg (Kd.R_ne HL117_0.out BK102.out (by decide)));have n4_:=Aside0.mk ((by rw [hw];exact below_set (HB.out) GB57.out : Below w.heap.size w w76));have n5_:=Aside0.mk (hm_);have n6_:=Aside0.mk ((Kd.R_reads' hm_).2.1);clear HO_102001;clear HO_102002;clear BK101;clear BK102;clear HB;clear HL115_0;clear HL117_0;have HO_102001:=n0_;have HO_102002:=n1_;have BK101:=n2_;have BK102:=n3_;have HB:=n4_;have HL128:=n5_;have HC119:=n6_;clear n0_ n1_ n2_ n3_ n4_ n5_ n6_;clear hg hw hp_ hz_ hm_ hok75;have p121 : 0 ≤ (x5_3 : Int):=of_decide_eq_true (by first|(with_reducible assumption)|assumption);have q121 : x5_3 < (l1.length : Int):=of_decide_eq_true (by first|(with_reducible assumption)|assumption);obtain ⟨ad121,e121,hx121_0⟩:=Kd.at_bool HR1.out x5_3 p121 q121;(try rw [← Nbq60.out] at hx121_0);cases e121;replace hx121_0:=(HB.out.cell (World.block_lt_of_cell? w _ hx121_0)).trans hx121_0;replace p121:=eq_true p121;replace q121:=eq_true q121))
                    go_roundg k3
                    case measure => have:=HK1.out;have:=HK2.out;have:=HK3.out;omega
                    case rel => exact ⟨(wrap64 (x5_3 + 1)),(wrap64 (x56_3 + 1)),(x102001_3),(y120),(u102001),(.slice (some ad115) x102002_3.length co74),(by first|rfl|(simp;done)|(simp [*];done)),(by first|rfl|(simp;done)|(simp [*];done)),H',⟨by have:=HK1.out;have:=HK2.out;have:=HK3.out;omega⟩,⟨by (with_reducible repeat (first|apply Kd.R_alloc|apply Kd.R_drewN|apply Kd.R_drew));exact HO_102001.out⟩,⟨by (with_reducible repeat (first|apply Kd.S_alloc|apply Kd.S_drewN|apply Kd.S_drew));exact HO_102002.out⟩,⟨by (with_reducible repeat (first|refine blk_drewN ?_ _|refine blk_drew ?_|refine blk_alloc ?_ _));exact BK101.out⟩,⟨by (with_reducible repeat (first|refine blk_drewN ?_ _|refine blk_drew ?_|refine blk_alloc ?_ _));exact BK102.out⟩,⟨by repeat (first|(with_reducible first|exact HB.out|apply below_alloc|apply pw_below_drewN|apply below_drew1|refine below_set ?_ GE101.out|refine below_set ?_ GE102.out)|exact HB.out)⟩⟩
                  ·
                   rw [if_neg c59] at H
                   exact absurd H (by simp)
                 ·
                  rw [if_neg c58] at H
                  have c58b0 : decide (x5_3 < (l1.length : Int)) = false:=decide_eq_false c58
                  clear c58
                  have H':=Aside0.mk H
                  clear H
                  have hnb77:=NB101_102.out
                  have hnc77:=NB102_101.out
                  have hcz78_0 : wr.cell? ⟨gb101,0,none⟩ = some (.int .i64 t103):=(blk_cell BK101.out 0).trans rfl
                  have hcz78_1 : wr.cell? ⟨gb101,1,none⟩ = some (u102001):=(blk_cell BK101.out 1).trans rfl
                  have hcz78_2 : wr.cell? ⟨gb101,2,none⟩ = some (u102002):=(blk_cell BK101.out 2).trans rfl
                  have hfz78_0:=blk_frozen BK101.out 0
                  have hfz78_1:=blk_frozen BK101.out 1
                  have hfz78_2:=blk_frozen BK101.out 2
                  obtain ⟨Ao79,co79,eo79⟩:=Kd.S_slice HO_102002.out
                  subst eo79
                  have p115 : 0 ≤ (x47_2 : Int):=of_decide_eq_true (by first|(with_reducible assumption)|assumption)
                  have q115 : x47_2 < (x102002_3.length : Int):=of_decide_eq_true (by first|(with_reducible assumption)|assumption)
                  obtain ⟨ad115,A115_0,c115_0,e115,hx115_0,hl115_0,hi115_0⟩:=at_L4 (Kd.S_reads' HO_102002.out).2.2 x47_2 p115 q115
                  cases e115
                  obtain ⟨ce115,hce115,hMe115,hcc115⟩:=Kd.S_get HO_102002.out [] x47_2 p115 (by first|exact q115|exact of_decide_eq_true (by first|(with_reducible assumption)|assumption)|(have e_:=(Kd.S_reads' HO_102002.out).1;omega))
                  obtain ⟨ve115_0,rfl,ge115_0⟩:=hMe115
                  have hv115_0:=hcc115 0 _ rfl
                  rw [Nat.add_zero,show ((Kd.slice 5 (Kd.int .u8))).sz = 1 from rfl,Nat.mul_one] at hv115_0
                  replace hv115_0:=Option.some.inj (hv115_0.symm.trans hx115_0)
                  rw [hv115_0] at ge115_0
                  have HL115_0:=Aside0.mk (show Kd.R (Kd.int .u8) 5 _ _ _ _ (rd_L4 x102002_3 x47_2) from ge115_0)
                  clear hv115_0 ge115_0
                  have HX115_0:=Aside0.mk hx115_0
                  clear hcc115 hce115
                  have HR115_0:=Aside0.mk hi115_0
                  have HC115_0:=Aside0.mk hl115_0
                  clear hi115_0 hl115_0
                  replace p115:=eq_true p115
                  replace q115:=eq_true q115
                  have p116 : 0 ≤ (x56_3 : Int):=of_decide_eq_true (by first|(with_reducible assumption)|assumption)
                  have q116 : x56_3 < ((rd_L4 x102002_3 x47_2).length : Int):=of_decide_eq_true (by first|(with_reducible assumption)|assumption)
                  obtain ⟨ad116,e116,hx116_0⟩:=Kd.at_int (by repeat (first|(with_reducible exact HR115_0.out)|(with_reducible refine Kd.C_alloc ?_ _)|(with_reducible refine Kd.C_drewN ?_ _)|(with_reducible refine Kd.C_drew ?_)|exact HR115_0.out)) x56_3 p116 q116
                  cases e116
                  replace p116:=eq_true p116
                  replace q116:=eq_true q116
                  have p117 : 0 ≤ (x47_2 : Int):=of_decide_eq_true (by first|(with_reducible assumption)|assumption)
                  have q117 : x47_2 < (x102002_3.length : Int):=of_decide_eq_true (by first|(with_reducible assumption)|assumption)
                  obtain ⟨ad117,A117_0,c117_0,e117,hx117_0,hl117_0,hi117_0⟩:=at_L4 (Kd.S_reads' HO_102002.out).2.2 x47_2 p117 q117
                  obtain rfl : ad115 = ad117:=(by injection e117)
                  obtain ⟨ce117,hce117,hMe117,hcc117⟩:=Kd.S_get HO_102002.out [] x47_2 p117 (by first|exact q117|exact of_decide_eq_true (by first|(with_reducible assumption)|assumption)|(have e_:=(Kd.S_reads' HO_102002.out).1;omega))
                  obtain ⟨ve117_0,rfl,ge117_0⟩:=hMe117
                  have hv117_0:=hcc117 0 _ rfl
                  rw [Nat.add_zero,show ((Kd.slice 5 (Kd.int .u8))).sz = 1 from rfl,Nat.mul_one] at hv117_0
                  replace hv117_0:=Option.some.inj (hv117_0.symm.trans hx117_0)
                  rw [hv117_0] at ge117_0
                  have HL117_0:=Aside0.mk (show Kd.R (Kd.int .u8) 5 _ _ _ _ (rd_L4 x102002_3 x47_2) from ge117_0)
                  clear hv117_0 ge117_0
                  have HX117_0:=Aside0.mk hx117_0
                  clear hcc117 hce117
                  have HR117_0:=Aside0.mk hi117_0
                  have HC117_0:=Aside0.mk hl117_0
                  clear hi117_0 hl117_0
                  replace p117:=eq_true p117
                  replace q117:=eq_true q117
                  have ea_:=Option.some.inj (hx115_0.symm.trans hx117_0)
                  injection ea_ with ea_ en_ ec_
                  subst ea_
                  subst ec_
                  clear en_
                  have p57 : 0 ≤ (x56_3 : Int):=of_decide_eq_true (by first|(with_reducible assumption)|assumption)
                  have q57 : (x56_3 : Int) < (((rd_L4 x102002_3 x47_2).length : Int) : Int):=of_decide_eq_true (by first|(with_reducible assumption)|assumption)
                  obtain ⟨go57,co57,eo57,gb57,gl57,cl57,HG57⟩:=Kd.R_form HL117_0.out (by omega)
                  (first|cases eo57|(injection eo57 with ea_ en_ ec_;(first|subst ea_|(injection ea_ with ea_;subst ea_));subst ec_;clear en_))
                  have GB57:=Aside0.mk gb57
                  have GG57:=Aside0.mk HG57
                  clear gb57 gl57 HG57
                  (first|simp only [add_plain] at hx116_0|skip)
                  obtain ⟨hx57_0,hf57_0⟩:=Kd.R_celln 0 HL117_0.out (x56_3 : Int) p57 q57
                  replace p57:=eq_true p57
                  replace q57:=eq_true q57
                  have hq80 : (x47_2 : Int) < (x102002_3.length : Int):=(by have h_ : (x47_2 : Int) < ((x102002_3.length : Int) : Int):=of_decide_eq_true (by first|(with_reducible assumption)|assumption);first|exact h_|(have e_:=(Kd.S_reads' HO_102002.out).1;omega)|simpa only [List.length_set,List.length_set] using h_)
                  obtain ⟨oki80,ce80,hcl80,hM80,hcc80,hok80,hbk80⟩:=Kd.S_borrow HO_102002.out [] (x47_2 : Int) (of_decide_eq_true (by first|(with_reducible assumption)|assumption)) (by first|exact hq80|(have e_:=(Kd.S_reads' HO_102002.out).1;omega))
                  obtain ⟨ve80_0,rfl,ge80_0⟩:=hM80
                  have hv80:=hcc80 0 _ rfl
                  rw [Nat.add_zero,show ((Kd.slice 5 (Kd.int .u8))).sz = 1 from rfl,Nat.mul_one] at hv80
                  replace hv80:=Option.some.inj (hv80.symm.trans HX117_0.out)
                  subst hv80
                  clear hcc80 hcl80
                  replace ge80_0:=(show Kd.R (Kd.int .u8) 5 _ _ _ _ (rd_L4 x102002_3 x47_2) from ge80_0)
                  have HP80:=Kd.R_putg ge80_0 (x56_3 : Int) 0
                  go_wp2_with (first|((with_reducible refine gate_store (t:=5) (p:=74) rfl ?_);refine store_event (t:=5) (p:=74) (v:=?vo_w81) (w1:=(wr.setCell ⟨go57,(x56_3 : Int).toNat,none⟩ (.int .u8 0))) ?hg ?ho ?hn ?hr ?_;(case ho => rfl);(case hg => rfl);(case hn => rfl);(case hr => first|(go_simp;done)|(go_simp;rfl));intro w81 hw;have hg : wr.grownBy w81 (some go57):=(by rw [hw];exact HP80.2);have hz_ : Kd.R (Kd.int .u8) 5 w81 w.heap.size oki80 (.slice (some ⟨go57,0,none⟩) (rd_L4 x102002_3 x47_2).length c115_0) y118:=(by rw [hw,Ny118.out];exact HP80.1);have hp_ : Kd.S (Kd.slice 5 (Kd.int .u8)) 27 w81 w.heap.size (fun k_ => some k_ ≠ (u102001 : Value).ownBlock) (.slice (some ad115) x102002_3.length co79) y120:=(by rw [Ny120.out];exact hbk80 hg (fun k_ e_ => by injection e_ with e_;subst e_;exact ge80_0.1 _ rfl) (Kd.M_row hz_));have hm_:=Kd.R_mono hz_ hok80;clear HP80 hbk80;have n0_:=Aside0.mk (Kd.R_grown1 (by (with_reducible repeat (first|apply Kd.R_alloc|apply Kd.R_drewN|apply Kd.R_drew));exact HO_102001.out) rfl hg ((HL117_0.out.1 _ rfl).1));have n1_:=Aside0.mk (hp_);have n2_:=Aside0.mk (blk_grown (g:=gb101) (o:=.cells #[.int .i64 t103,u102001,.slice (some ad115) x102002_3.length co79] 30 (0,0)) (by (with_reducible repeat (first|refine blk_drewN ?_ _|refine blk_drew ?_|refine blk_alloc ?_ _));exact BK101.out) hg (Kd.R_ne HL117_0.out BK101.out (by decide)));have n3_:=Aside0.mk (blk_grown (g:=gb102) (o:=.cells #[.int .i64 0,.slice none 0 0,.slice none 0 0] 30 (0,0)) (by (with_reducible repeat (first|refine blk_drewN ?_ _|refine blk_drew ?_|refine blk_alloc ?_ _));exact BK102.out) hg (Kd.R_ne HL117_0.out BK102.out (by decide)));have n4_:=Aside0.mk ((by rw [hw];exact below_set (HB.out) GB57.out : Below w.heap.size w w81));have n5_:=Aside0.mk (hm_);have n6_:=Aside0.mk ((Kd.R_reads' hm_).2.1);clear HO_102001;clear HO_102002;clear BK101;clear BK102;clear HB;clear HL115_0;clear HL117_0;have HO_102001:=n0_;have HO_102002:=n1_;have BK101:=n2_;have BK102:=n3_;have HB:=n4_;have HL129:=n5_;have HC119:=n6_;clear n0_ n1_ n2_ n3_ n4_ n5_ n6_;clear hg hw hp_ hz_ hm_ hok80))
                  go_roundg k3
                  case measure => have:=HK1.out;have:=HK2.out;have:=HK3.out;omega
                  case rel => exact ⟨(wrap64 (x5_3 + 1)),(wrap64 (x56_3 + 1)),(x102001_3),(y120),(u102001),(.slice (some ad115) x102002_3.length co79),(by first|rfl|(simp;done)|(simp [*];done)),(by first|rfl|(simp;done)|(simp [*];done)),H',⟨by have:=HK1.out;have:=HK2.out;have:=HK3.out;omega⟩,⟨by (with_reducible repeat (first|apply Kd.R_alloc|apply Kd.R_drewN|apply Kd.R_drew));exact HO_102001.out⟩,⟨by (with_reducible repeat (first|apply Kd.S_alloc|apply Kd.S_drewN|apply Kd.S_drew));exact HO_102002.out⟩,⟨by (with_reducible repeat (first|refine blk_drewN ?_ _|refine blk_drew ?_|refine blk_alloc ?_ _));exact BK101.out⟩,⟨by (with_reducible repeat (first|refine blk_drewN ?_ _|refine blk_drew ?_|refine blk_alloc ?_ _));exact BK102.out⟩,⟨by repeat (first|(with_reducible first|exact HB.out|apply below_alloc|apply pw_below_drewN|apply below_drew1|refine below_set ?_ GE101.out|refine below_set ?_ GE102.out)|exact HB.out)⟩⟩
                ·
                 rw [if_neg c56] at H
                 have c56b0 : ((rd (rd_L4 x102002_3 x47_2) x56_3) == 2) = false:=beq_eq_false_iff_ne.mpr c56
                 have c56b1 : ((rd (rd_L4 x102002_3 x47_2) x56_3) != 2) = true:=bne_iff_ne.mpr c56
                 have H':=Aside0.mk H
                 clear H
                 have hnb82:=NB101_102.out
                 have hnc82:=NB102_101.out
                 have hcz83_0 : wr.cell? ⟨gb101,0,none⟩ = some (.int .i64 t103):=(blk_cell BK101.out 0).trans rfl
                 have hcz83_1 : wr.cell? ⟨gb101,1,none⟩ = some (u102001):=(blk_cell BK101.out 1).trans rfl
                 have hcz83_2 : wr.cell? ⟨gb101,2,none⟩ = some (u102002):=(blk_cell BK101.out 2).trans rfl
                 have hfz83_0:=blk_frozen BK101.out 0
                 have hfz83_1:=blk_frozen BK101.out 1
                 have hfz83_2:=blk_frozen BK101.out 2
                 obtain ⟨Ao84,co84,eo84⟩:=Kd.S_slice HO_102002.out
                 subst eo84
                 have p115 : 0 ≤ (x47_2 : Int):=of_decide_eq_true (by first|(with_reducible assumption)|assumption)
                 have q115 : x47_2 < (x102002_3.length : Int):=of_decide_eq_true (by first|(with_reducible assumption)|assumption)
                 obtain ⟨ad115,A115_0,c115_0,e115,hx115_0,hl115_0,hi115_0⟩:=at_L4 (Kd.S_reads' HO_102002.out).2.2 x47_2 p115 q115
                 cases e115
                 obtain ⟨ce115,hce115,hMe115,hcc115⟩:=Kd.S_get HO_102002.out [] x47_2 p115 (by first|exact q115|exact of_decide_eq_true (by first|(with_reducible assumption)|assumption)|(have e_:=(Kd.S_reads' HO_102002.out).1;omega))
                 obtain ⟨ve115_0,rfl,ge115_0⟩:=hMe115
                 have hv115_0:=hcc115 0 _ rfl
                 rw [Nat.add_zero,show ((Kd.slice 5 (Kd.int .u8))).sz = 1 from rfl,Nat.mul_one] at hv115_0
                 replace hv115_0:=Option.some.inj (hv115_0.symm.trans hx115_0)
                 rw [hv115_0] at ge115_0
                 have HL115_0:=Aside0.mk (show Kd.R (Kd.int .u8) 5 _ _ _ _ (rd_L4 x102002_3 x47_2) from ge115_0)
                 clear hv115_0 ge115_0
                 have HX115_0:=Aside0.mk hx115_0
                 clear hcc115 hce115
                 have HR115_0:=Aside0.mk hi115_0
                 have HC115_0:=Aside0.mk hl115_0
                 clear hi115_0 hl115_0
                 replace p115:=eq_true p115
                 replace q115:=eq_true q115
                 have p116 : 0 ≤ (x56_3 : Int):=of_decide_eq_true (by first|(with_reducible assumption)|assumption)
                 have q116 : x56_3 < ((rd_L4 x102002_3 x47_2).length : Int):=of_decide_eq_true (by first|(with_reducible assumption)|assumption)
                 obtain ⟨ad116,e116,hx116_0⟩:=Kd.at_int (by repeat (first|(with_reducible exact HR115_0.out)|(with_reducible refine Kd.C_alloc ?_ _)|(with_reducible refine Kd.C_drewN ?_ _)|(with_reducible refine Kd.C_drew ?_)|exact HR115_0.out)) x56_3 p116 q116
                 cases e116
                 replace p116:=eq_true p116
                 replace q116:=eq_true q116
                 go_wp2
                 go_roundg k3
                 case measure => have:=HK1.out;have:=HK2.out;have:=HK3.out;omega
                 case rel => exact ⟨(x5_3),(wrap64 (x56_3 + 1)),(x102001_3),(x102002_3),(u102001),(.slice (some ad115) x102002_3.length co84),(by first|rfl|(simp;done)|(simp [*];done)),(by first|rfl|(simp;done)|(simp [*];done)),H',⟨by have:=HK1.out;have:=HK2.out;have:=HK3.out;omega⟩,⟨by (with_reducible repeat (first|apply Kd.R_alloc|apply Kd.R_drewN|apply Kd.R_drew));exact HO_102001.out⟩,⟨by (with_reducible repeat (first|apply Kd.S_alloc|apply Kd.S_drewN|apply Kd.S_drew));exact HO_102002.out⟩,⟨by (with_reducible repeat (first|refine blk_drewN ?_ _|refine blk_drew ?_|refine blk_alloc ?_ _));exact BK101.out⟩,⟨by (with_reducible repeat (first|refine blk_drewN ?_ _|refine blk_drew ?_|refine blk_alloc ?_ _));exact BK102.out⟩,⟨by repeat (first|(with_reducible first|exact HB.out|apply below_alloc|apply pw_below_drewN|apply below_drew1|refine below_set ?_ GE101.out|refine below_set ?_ GE102.out)|exact HB.out)⟩⟩
               ·
                rw [if_neg c55] at H
                exact absurd H (by simp)
              ·
               rw [if_neg c54] at H
               exact absurd H (by simp)
             ·
              rw [if_neg c53] at H
              exact absurd H (by simp)
            ·
             rw [if_neg c52] at H
             exact absurd H (by simp)
           ·
            rw [if_neg c51] at H
            have c51b0 : decide (x56_3 < ((rd_L4 x102002_2 x47_2).length : Int)) = false:=decide_eq_false c51
            clear c51
            have H':=Aside0.mk H
            clear H
            go_wp2
            go_roundg k3
            case measure => have:=HK1.out;have:=HK2.out;have:=HK3.out;omega
            case rel => exact ⟨(x5_3),(wrap64 (x47_2 + 1)),(x102001_3),(x102002_3),(u102001),(u102002),(by first|rfl|(simp;done)|(simp [*];done)),(by first|rfl|(simp;done)|(simp [*];done)),H',⟨by have:=HK1.out;have:=HK2.out;have:=HK3.out;omega⟩,⟨by (with_reducible repeat (first|apply Kd.R_alloc|apply Kd.R_drewN|apply Kd.R_drew));exact HO_102001.out⟩,⟨by (with_reducible repeat (first|apply Kd.S_alloc|apply Kd.S_drewN|apply Kd.S_drew));exact HO_102002.out⟩,⟨by (with_reducible repeat (first|refine blk_drewN ?_ _|refine blk_drew ?_|refine blk_alloc ?_ _));exact BK101.out⟩,⟨by (with_reducible repeat (first|refine blk_drewN ?_ _|refine blk_drew ?_|refine blk_alloc ?_ _));exact BK102.out⟩,⟨by repeat (first|(with_reducible first|exact HB.out|apply below_alloc|apply pw_below_drewN|apply below_drew1|refine below_set ?_ GE101.out|refine below_set ?_ GE102.out)|exact HB.out)⟩⟩
        ·
         rw [if_neg c47] at H
         exact absurd H (by simp)
       ·
        rw [if_neg c46] at H
        exact absurd H (by simp)
      ·
       rw [if_neg c45] at H
       have c45b0 : decide (x47_2 < (t107.length : Int)) = false:=decide_eq_false c45
       clear c45
       simp only [Option.some.injEq,Prod.mk.injEq] at H
       obtain ⟨rfl,rfl,rfl⟩:=H
       have hnb85:=NB101_102.out
       have hnc85:=NB102_101.out
       have hcz86_0 : wr.cell? ⟨gb101,0,none⟩ = some (.int .i64 t103):=(blk_cell BK101.out 0).trans rfl
       have hcz86_1 : wr.cell? ⟨gb101,1,none⟩ = some (u102001):=(blk_cell BK101.out 1).trans rfl
       have hcz86_2 : wr.cell? ⟨gb101,2,none⟩ = some (u102002):=(blk_cell BK101.out 2).trans rfl
       have hfz86_0:=blk_frozen BK101.out 0
       have hfz86_1:=blk_frozen BK101.out 1
       have hfz86_2:=blk_frozen BK101.out 2
       have hcz87_0 : wr.cell? ⟨gb102,0,none⟩ = some (.int .i64 0):=(blk_cell BK102.out 0).trans rfl
       have hcz87_1 : wr.cell? ⟨gb102,1,none⟩ = some (.slice none 0 0):=(blk_cell BK102.out 1).trans rfl
       have hcz87_2 : wr.cell? ⟨gb102,2,none⟩ = some (.slice none 0 0):=(blk_cell BK102.out 2).trans rfl
       have hfz87_0:=blk_frozen BK102.out 0
       have hfz87_1:=blk_frozen BK102.out 1
       have hfz87_2:=blk_frozen BK102.out 2
       obtain ⟨Ao88,co88,eo88⟩:=Kd.R_slice HO_102001.out
       subst eo88
       obtain ⟨Ao89,co89,eo89⟩:=Kd.S_slice HO_102002.out
       subst eo89
       go_wp2
       refine bodyPost_ret (results_cell_row rfl _ _ gb102 30 #[.int .i64 t103,.slice Ao88 x102001_2.length co88,.slice Ao89 x102002_2.length co89] (0,0) _ rfl (by (with_reducible repeat (first|refine blk_drewN ?_ _|refine blk_drew ?_|refine blk_alloc ?_ _));refine blk_put (cs:=#[.int .i64 t103,.slice Ao88 x102001_2.length co88,.slice none 0 0]) ?_ 2 _ rfl;(with_reducible repeat (first|refine blk_drewN ?_ _|refine blk_drew ?_|refine blk_alloc ?_ _));refine blk_put (cs:=#[.int .i64 t103,.slice none 0 0,.slice none 0 0]) ?_ 1 _ rfl;(with_reducible repeat (first|refine blk_drewN ?_ _|refine blk_drew ?_|refine blk_alloc ?_ _));refine blk_put (cs:=#[.int .i64 0,.slice none 0 0,.slice none 0 0]) ?_ 0 _ rfl;(with_reducible repeat (first|refine blk_drewN ?_ _|refine blk_drew ?_|refine blk_alloc ?_ _));exact BK102.out) Tryd.underlying30 rfl (by kernel_rfl)) rfl ?_
       exact ⟨_,_,by first|rfl|(simp [errW_none,errW_some] <;> rfl)|(simp [*,errW_none,errW_some] <;> rfl),by (with_reducible repeat (first|apply Kd.R_alloc|apply Kd.R_drewN|apply Kd.R_drew));exact Kd.R_mono (Kd.R_far (p:=⟨gb102,2,none⟩) (Kd.R_far (p:=⟨gb102,1,none⟩) (Kd.R_far (p:=⟨gb102,0,none⟩) (Kd.R_types HO_102001.out BK102.out (by decide)) (fun _ hk => hk.2) (.int .i64 t103)) (fun _ hk => hk.2) (.slice Ao88 x102001_2.length co88)) (fun _ hk => hk.2) (.slice Ao89 x102002_2.length co89)) (fun _ hk => trivial),by (with_reducible repeat (first|apply Kd.S_alloc|apply Kd.S_drewN|apply Kd.S_drew));exact Kd.S_mono (Kd.S_far (p:=⟨gb102,2,none⟩) (Kd.S_far (p:=⟨gb102,1,none⟩) (Kd.S_far (p:=⟨gb102,0,none⟩) (Kd.S_types HO_102002.out BK102.out (by decide)) (fun _ hk => hk.2) (.int .i64 t103)) (fun _ hk => hk.2) (.slice Ao88 x102001_2.length co88)) (fun _ hk => hk.2) (.slice Ao89 x102002_2.length co89)) (fun _ hk => hk.1),by repeat (first|(with_reducible first|exact HB.out|apply below_alloc|apply pw_below_drewN|apply below_drew1|refine below_set ?_ GE101.out|refine below_set ?_ GE102.out)|exact HB.out)⟩

end Go.Proofs.YthpnooookkpkaaaDoor.F
/- A function of the program as a plain Lean function, and that the machine's call comes to it: written by a program of this session over the kit's print. -/
namespace Go.Proofs.YthpnooookkpkaaaDoor.F
open Go.RowKit Go.Proofs.YthpnooookkpkaaaDoorW.PrintWords Go.Proofs.YthpnooookkpkaaaDoorW.PrintLast Go.Proofs.YthpnooookkpkaaaDoorW.PrintMore
attribute [local go_sem] max2_int min2_int max_two min_two max_three min_three max_four min_four   -- for this text's walks alone
set_option linter.unusedVariables false
set_option linter.unusedSimpArgs false

/-! ### inquestlaw07_great: function 13 -/
def inquestlaw07_great.f (a0_0 : Int) (l0_1 : List (S71)) (l0_2 : List (S84)) (l0_3 : List Int) (l0_4 : List Int) (l0_5 : List Int) (a1_0 : Int) (l1_1 : List Int) (l1_2 : List (List Int)) : Option (Bool):=if a0_0 > 2000 then (some true) else (if (l0_1.length : Int) > 300 then (some true) else (if (l0_2.length : Int) > 300 then (some true) else (if (l0_5.length : Int) > 300 then (some true) else (some (decide ((l1_2.length : Int) > 300))))))
set_option maxHeartbeats 8000000 in
set_option maxRecDepth 100000 in
theorem inquestlaw07_great.calls (a0_0 : Int) (A0_1 : Option Addr) (c0_1 : Nat) (l0_1 : List (S71)) (A0_2 : Option Addr) (c0_2 : Nat) (l0_2 : List (S84)) (A0_3 : Option Addr) (c0_3 : Nat) (l0_3 : List Int) (A0_4 : Option Addr) (c0_4 : Nat) (l0_4 : List Int) (A0_5 : Option Addr) (c0_5 : Nat) (l0_5 : List Int) (a1_0 : Int) (A1_1 : Option Addr) (c1_1 : Nat) (l1_1 : List Int) (A1_2 : Option Addr) (c1_2 : Nat) (l1_2 : List (List Int)) (r : Bool) (w : World) (hr0_1 : Kd.C k71 w A0_1 l0_1.length l0_1) (hc0_1 : l0_1.length ≤ c0_1) (hr0_2 : Kd.C k84 w A0_2 l0_2.length l0_2) (hc0_2 : l0_2.length ≤ c0_2) (hr0_3 : Kd.C (Kd.int .u32) w A0_3 l0_3.length l0_3) (hc0_3 : l0_3.length ≤ c0_3) (hr0_4 : Kd.C (Kd.int .u32) w A0_4 l0_4.length l0_4) (hc0_4 : l0_4.length ≤ c0_4) (hr0_5 : Kd.C (Kd.int .u32) w A0_5 l0_5.length l0_5) (hc0_5 : l0_5.length ≤ c0_5) (hr1_1 : Kd.C (Kd.int .u8) w A1_1 l1_1.length l1_1) (hc1_1 : l1_1.length ≤ c1_1) (hr1_2 : Kd.C (Kd.slice 5 (Kd.int .u8)) w A1_2 l1_2.length l1_2) (hc1_2 : l1_2.length ≤ c1_2) (h : inquestlaw07_great.f a0_0 l0_1 l0_2 l0_3 l0_4 l0_5 a1_0 l1_1 l1_2 = some r) :
  Calls Tryd.prog 13 #[.agg #[.int .i64 a0_0,.slice A0_1 l0_1.length c0_1,.slice A0_2 l0_2.length c0_2,.slice A0_3 l0_3.length c0_3,.slice A0_4 l0_4.length c0_4,.slice A0_5 l0_5.length c0_5],.agg #[.int .i64 a1_0,.slice A1_1 l1_1.length c1_1,.slice A1_2 l1_2.length c1_2]] w fun e w' => e = .returned (.bool r)∧Below w.heap.size w w':=by
 have hu26:=Tryd.underlying26
 have hu30:=Tryd.underlying30
 have HR0_1:=Aside0.mk hr0_1
 have HC0_1:=Aside0.mk hc0_1
 clear hr0_1 hc0_1
 have HR0_2:=Aside0.mk hr0_2
 have HC0_2:=Aside0.mk hc0_2
 clear hr0_2 hc0_2
 have HR0_3:=Aside0.mk hr0_3
 have HC0_3:=Aside0.mk hc0_3
 clear hr0_3 hc0_3
 have HR0_4:=Aside0.mk hr0_4
 have HC0_4:=Aside0.mk hc0_4
 clear hr0_4 hc0_4
 have HR0_5:=Aside0.mk hr0_5
 have HC0_5:=Aside0.mk hc0_5
 clear hr0_5 hc0_5
 have HR1_1:=Aside0.mk hr1_1
 have HC1_1:=Aside0.mk hc1_1
 clear hr1_1 hc1_1
 have HR1_2:=Aside0.mk hr1_2
 have HC1_2:=Aside0.mk hc1_2
 clear hr1_2 hc1_2
 have HB:=Aside0.mk (Below.refl w.heap.size w)
 have H : (if a0_0 > 2000 then (some true) else (if (l0_1.length : Int) > 300 then (some true) else (if (l0_2.length : Int) > 300 then (some true) else (if (l0_5.length : Int) > 300 then (some true) else (some (decide ((l1_2.length : Int) > 300))))))) = some r:=h
 clear h
 by_cases c3 : a0_0 > 2000
 ·
  rw [if_pos c3] at H
  have c3b0 : decide (2000 < a0_0) = true:=decide_eq_true c3
  clear c3
  obtain rfl:=Option.some.inj H
  go_enter Tryd.func13,Tryd.ntmps13
  go_wp2_with (first|((with_reducible refine gate_dst (N:=2) rfl ?_);(try (refine gate_guard (by rfl) ?_;dsimp only));refine box_event ?hg (N:=2) ?hd (cs:=#[.int .i64 a0_0,.slice A0_1 l0_1.length c0_1,.slice A0_2 l0_2.length c0_2,.slice A0_3 l0_3.length c0_3,.slice A0_4 l0_4.length c0_4,.slice A0_5 l0_5.length c0_5]) (t:=26) ?hr ?_;(case hd => rfl);(case hg => rfl);(case hr => first|(go_simp;done)|(go_simp;rfl));intro gb101 hg w4 hbox hb;have n0_:=Aside0.mk (below_step (by repeat (first|(with_reducible first|exact HB.out|apply below_alloc|apply pw_below_drewN|apply below_drew1)|exact HB.out)) hb);have n1_:=Aside0.mk (hbox);have n2_:=Aside0.mk ((by rw [hg];exact (below_size (by repeat (first|(with_reducible first|exact HB.out|apply below_alloc|apply pw_below_drewN|apply below_drew1)|exact HB.out))) : w.heap.size ≤ gb101));have n3_:=Aside0.mk ((by rw [hg];exact (below_size (by repeat (first|(with_reducible first|exact HB.out|apply below_alloc|apply pw_below_drewN|apply below_drew1)|exact HB.out))) : w.heap.size ≤ gb101));clear HB;have HB:=n0_;have BK101:=n1_;have GW101:=n2_;have GE101:=n3_;clear n0_ n1_ n2_ n3_;clear hb hbox hg)|((with_reducible refine gate_dst (N:=3) rfl ?_);(try (refine gate_guard (by rfl) ?_;dsimp only));refine box_event ?hg (N:=3) ?hd (cs:=#[.int .i64 a1_0,.slice A1_1 l1_1.length c1_1,.slice A1_2 l1_2.length c1_2]) (t:=30) ?hr ?_;(case hd => rfl);(case hg => rfl);(case hr => first|(go_simp;done)|(go_simp;rfl));intro gb102 hg w5 hbox hb;have n0_:=Aside0.mk (blk_below (g:=gb101) (o:=.cells #[.int .i64 a0_0,.slice A0_1 l0_1.length c0_1,.slice A0_2 l0_2.length c0_2,.slice A0_3 l0_3.length c0_3,.slice A0_4 l0_4.length c0_4,.slice A0_5 l0_5.length c0_5] 26 (0,0)) (by (with_reducible repeat (first|refine blk_drewN ?_ _|refine blk_drew ?_|refine blk_alloc ?_ _));exact BK101.out) hb);have n1_:=Aside0.mk (below_step (by repeat (first|(with_reducible first|exact HB.out|apply below_alloc|apply pw_below_drewN|apply below_drew1|refine below_set ?_ GE101.out)|exact HB.out)) hb);have n2_:=Aside0.mk (hbox);have n3_:=Aside0.mk ((by rw [hg];exact (below_size (by repeat (first|(with_reducible first|exact HB.out|apply below_alloc|apply pw_below_drewN|apply below_drew1|refine below_set ?_ GE101.out)|exact HB.out))) : w.heap.size ≤ gb102));have n4_:=Aside0.mk ((by rw [hg];exact (below_size (by repeat (first|(with_reducible first|exact HB.out|apply below_alloc|apply pw_below_drewN|apply below_drew1|refine below_set ?_ GE101.out)|exact HB.out))) : w.heap.size ≤ gb102));have n5_:=Aside0.mk ((by rw [hg];exact Nat.ne_of_lt (blk_lt (g:=gb101) (o:=.cells #[.int .i64 a0_0,.slice A0_1 l0_1.length c0_1,.slice A0_2 l0_2.length c0_2,.slice A0_3 l0_3.length c0_3,.slice A0_4 l0_4.length c0_4,.slice A0_5 l0_5.length c0_5] 26 (0,0)) (by (with_reducible repeat (first|refine blk_drewN ?_ _|refine blk_drew ?_|refine blk_alloc ?_ _));exact BK101.out)) : gb101 ≠ gb102));have n6_:=Aside0.mk ((by rw [hg];exact Nat.ne_of_gt (blk_lt (g:=gb101) (o:=.cells #[.int .i64 a0_0,.slice A0_1 l0_1.length c0_1,.slice A0_2 l0_2.length c0_2,.slice A0_3 l0_3.length c0_3,.slice A0_4 l0_4.length c0_4,.slice A0_5 l0_5.length c0_5] 26 (0,0)) (by (with_reducible repeat (first|refine blk_drewN ?_ _|refine blk_drew ?_|refine blk_alloc ?_ _));exact BK101.out)) : gb102 ≠ gb101));clear BK101;clear HB;have BK101:=n0_;have HB:=n1_;have BK102:=n2_;have GW102:=n3_;have GE102:=n4_;have NB101_102:=n5_;have NB102_101:=n6_;clear n0_ n1_ n2_ n3_ n4_ n5_ n6_;clear hb hbox hg;have hnb6:=NB101_102.out;have hnc6:=NB102_101.out;have hcz7_0 : w5.cell? ⟨gb101,0,none⟩ = some (.int .i64 a0_0):=(blk_cell BK101.out 0).trans rfl;have hcz7_1 : w5.cell? ⟨gb101,1,none⟩ = some (.slice A0_1 l0_1.length c0_1):=(blk_cell BK101.out 1).trans rfl;have hcz7_2 : w5.cell? ⟨gb101,2,none⟩ = some (.slice A0_2 l0_2.length c0_2):=(blk_cell BK101.out 2).trans rfl;have hcz7_3 : w5.cell? ⟨gb101,3,none⟩ = some (.slice A0_3 l0_3.length c0_3):=(blk_cell BK101.out 3).trans rfl;have hcz7_4 : w5.cell? ⟨gb101,4,none⟩ = some (.slice A0_4 l0_4.length c0_4):=(blk_cell BK101.out 4).trans rfl;have hcz7_5 : w5.cell? ⟨gb101,5,none⟩ = some (.slice A0_5 l0_5.length c0_5):=(blk_cell BK101.out 5).trans rfl;have hfz7_0:=blk_frozen BK101.out 0;have hfz7_1:=blk_frozen BK101.out 1;have hfz7_2:=blk_frozen BK101.out 2;have hfz7_3:=blk_frozen BK101.out 3;have hfz7_4:=blk_frozen BK101.out 4;have hfz7_5:=blk_frozen BK101.out 5))
  go_ret
  exact ⟨by first|rfl|(simp [errW_none,errW_some] <;> rfl)|(simp [*,errW_none,errW_some] <;> rfl),by repeat (first|(with_reducible first|exact HB.out|apply below_alloc|apply pw_below_drewN|apply below_drew1|refine below_set ?_ GE101.out|refine below_set ?_ GE102.out)|exact HB.out)⟩
 ·
  rw [if_neg c3] at H
  have c3b0 : decide (2000 < a0_0) = false:=decide_eq_false c3
  clear c3
  by_cases c8 : (l0_1.length : Int) > 300
  ·
   rw [if_pos c8] at H
   have c8b0 : decide (300 < (l0_1.length : Int)) = true:=decide_eq_true c8
   have c8b1 : decide (300 < l0_1.length) = true:=decide_eq_true (by omega)
   clear c8
   obtain rfl:=Option.some.inj H
   go_enter Tryd.func13,Tryd.ntmps13
   go_wp2_with (first|((with_reducible refine gate_dst (N:=2) rfl ?_);(try (refine gate_guard (by rfl) ?_;dsimp only));refine box_event ?hg (N:=2) ?hd (cs:=#[.int .i64 a0_0,.slice A0_1 l0_1.length c0_1,.slice A0_2 l0_2.length c0_2,.slice A0_3 l0_3.length c0_3,.slice A0_4 l0_4.length c0_4,.slice A0_5 l0_5.length c0_5]) (t:=26) ?hr ?_;(case hd => rfl);(case hg => rfl);(case hr => first|(go_simp;done)|(go_simp;rfl));intro gb101 hg w9 hbox hb;have n0_:=Aside0.mk (below_step (by repeat (first|(with_reducible first|exact HB.out|apply below_alloc|apply pw_below_drewN|apply below_drew1)|exact HB.out)) hb);have n1_:=Aside0.mk (hbox);have n2_:=Aside0.mk ((by rw [hg];exact (below_size (by repeat (first|(with_reducible first|exact HB.out|apply below_alloc|apply pw_below_drewN|apply below_drew1)|exact HB.out))) : w.heap.size ≤ gb101));have n3_:=Aside0.mk ((by rw [hg];exact (below_size (by repeat (first|(with_reducible first|exact HB.out|apply below_alloc|apply pw_below_drewN|apply below_drew1)|exact HB.out))) : w.heap.size ≤ gb101));clear HB;have HB:=n0_;have BK101:=n1_;have GW101:=n2_;have GE101:=n3_;clear n0_ n1_ n2_ n3_;clear hb hbox hg)|((with_reducible refine gate_dst (N:=3) rfl ?_);(try (refine gate_guard (by rfl) ?_;dsimp only));refine box_event ?hg (N:=3) ?hd (cs:=#[.int .i64 a1_0,.slice A1_1 l1_1.length c1_1,.slice A1_2 l1_2.length c1_2]) (t:=30) ?hr ?_;(case hd => rfl);(case hg => rfl);(case hr => first|(go_simp;done)|(go_simp;rfl));intro gb102 hg w10 hbox hb;have n0_:=Aside0.mk (blk_below (g:=gb101) (o:=.cells #[.int .i64 a0_0,.slice A0_1 l0_1.length c0_1,.slice A0_2 l0_2.length c0_2,.slice A0_3 l0_3.length c0_3,.slice A0_4 l0_4.length c0_4,.slice A0_5 l0_5.length c0_5] 26 (0,0)) (by (with_reducible repeat (first|refine blk_drewN ?_ _|refine blk_drew ?_|refine blk_alloc ?_ _));exact BK101.out) hb);have n1_:=Aside0.mk (below_step (by repeat (first|(with_reducible first|exact HB.out|apply below_alloc|apply pw_below_drewN|apply below_drew1|refine below_set ?_ GE101.out)|exact HB.out)) hb);have n2_:=Aside0.mk (hbox);have n3_:=Aside0.mk ((by rw [hg];exact (below_size (by repeat (first|(with_reducible first|exact HB.out|apply below_alloc|apply pw_below_drewN|apply below_drew1|refine below_set ?_ GE101.out)|exact HB.out))) : w.heap.size ≤ gb102));have n4_:=Aside0.mk ((by rw [hg];exact (below_size (by repeat (first|(with_reducible first|exact HB.out|apply below_alloc|apply pw_below_drewN|apply below_drew1|refine below_set ?_ GE101.out)|exact HB.out))) : w.heap.size ≤ gb102));have n5_:=Aside0.mk ((by rw [hg];exact Nat.ne_of_lt (blk_lt (g:=gb101) (o:=.cells #[.int .i64 a0_0,.slice A0_1 l0_1.length c0_1,.slice A0_2 l0_2.length c0_2,.slice A0_3 l0_3.length c0_3,.slice A0_4 l0_4.length c0_4,.slice A0_5 l0_5.length c0_5] 26 (0,0)) (by (with_reducible repeat (first|refine blk_drewN ?_ _|refine blk_drew ?_|refine blk_alloc ?_ _));exact BK101.out)) : gb101 ≠ gb102));have n6_:=Aside0.mk ((by rw [hg];exact Nat.ne_of_gt (blk_lt (g:=gb101) (o:=.cells #[.int .i64 a0_0,.slice A0_1 l0_1.length c0_1,.slice A0_2 l0_2.length c0_2,.slice A0_3 l0_3.length c0_3,.slice A0_4 l0_4.length c0_4,.slice A0_5 l0_5.length c0_5] 26 (0,0)) (by (with_reducible repeat (first|refine blk_drewN ?_ _|refine blk_drew ?_|refine blk_alloc ?_ _));exact BK101.out)) : gb102 ≠ gb101));clear BK101;clear HB;have BK101:=n0_;have HB:=n1_;have BK102:=n2_;have GW102:=n3_;have GE102:=n4_;have NB101_102:=n5_;have NB102_101:=n6_;clear n0_ n1_ n2_ n3_ n4_ n5_ n6_;clear hb hbox hg;have hnb11:=NB101_102.out;have hnc11:=NB102_101.out;have hcz12_0 : w10.cell? ⟨gb101,0,none⟩ = some (.int .i64 a0_0):=(blk_cell BK101.out 0).trans rfl;have hcz12_1 : w10.cell? ⟨gb101,1,none⟩ = some (.slice A0_1 l0_1.length c0_1):=(blk_cell BK101.out 1).trans rfl;have hcz12_2 : w10.cell? ⟨gb101,2,none⟩ = some (.slice A0_2 l0_2.length c0_2):=(blk_cell BK101.out 2).trans rfl;have hcz12_3 : w10.cell? ⟨gb101,3,none⟩ = some (.slice A0_3 l0_3.length c0_3):=(blk_cell BK101.out 3).trans rfl;have hcz12_4 : w10.cell? ⟨gb101,4,none⟩ = some (.slice A0_4 l0_4.length c0_4):=(blk_cell BK101.out 4).trans rfl;have hcz12_5 : w10.cell? ⟨gb101,5,none⟩ = some (.slice A0_5 l0_5.length c0_5):=(blk_cell BK101.out 5).trans rfl;have hfz12_0:=blk_frozen BK101.out 0;have hfz12_1:=blk_frozen BK101.out 1;have hfz12_2:=blk_frozen BK101.out 2;have hfz12_3:=blk_frozen BK101.out 3;have hfz12_4:=blk_frozen BK101.out 4;have hfz12_5:=blk_frozen BK101.out 5))
   go_ret
   exact ⟨by first|rfl|(simp [errW_none,errW_some] <;> rfl)|(simp [*,errW_none,errW_some] <;> rfl),by repeat (first|(with_reducible first|exact HB.out|apply below_alloc|apply pw_below_drewN|apply below_drew1|refine below_set ?_ GE101.out|refine below_set ?_ GE102.out)|exact HB.out)⟩
  ·
   rw [if_neg c8] at H
   have c8b0 : decide (300 < (l0_1.length : Int)) = false:=decide_eq_false c8
   have c8b1 : decide (300 < l0_1.length) = false:=decide_eq_false (by omega)
   clear c8
   by_cases c13 : (l0_2.length : Int) > 300
   ·
    rw [if_pos c13] at H
    have c13b0 : decide (300 < (l0_2.length : Int)) = true:=decide_eq_true c13
    have c13b1 : decide (300 < l0_2.length) = true:=decide_eq_true (by omega)
    clear c13
    obtain rfl:=Option.some.inj H
    go_enter Tryd.func13,Tryd.ntmps13
    go_wp2_with (first|((with_reducible refine gate_dst (N:=2) rfl ?_);(try (refine gate_guard (by rfl) ?_;dsimp only));refine box_event ?hg (N:=2) ?hd (cs:=#[.int .i64 a0_0,.slice A0_1 l0_1.length c0_1,.slice A0_2 l0_2.length c0_2,.slice A0_3 l0_3.length c0_3,.slice A0_4 l0_4.length c0_4,.slice A0_5 l0_5.length c0_5]) (t:=26) ?hr ?_;(case hd => rfl);(case hg => rfl);(case hr => first|(go_simp;done)|(go_simp;rfl));intro gb101 hg w14 hbox hb;have n0_:=Aside0.mk (below_step (by repeat (first|(with_reducible first|exact HB.out|apply below_alloc|apply pw_below_drewN|apply below_drew1)|exact HB.out)) hb);have n1_:=Aside0.mk (hbox);have n2_:=Aside0.mk ((by rw [hg];exact (below_size (by repeat (first|(with_reducible first|exact HB.out|apply below_alloc|apply pw_below_drewN|apply below_drew1)|exact HB.out))) : w.heap.size ≤ gb101));have n3_:=Aside0.mk ((by rw [hg];exact (below_size (by repeat (first|(with_reducible first|exact HB.out|apply below_alloc|apply pw_below_drewN|apply below_drew1)|exact HB.out))) : w.heap.size ≤ gb101));clear HB;have HB:=n0_;have BK101:=n1_;have GW101:=n2_;have GE101:=n3_;clear n0_ n1_ n2_ n3_;clear hb hbox hg)|((with_reducible refine gate_dst (N:=3) rfl ?_);(try (refine gate_guard (by rfl) ?_;dsimp only));refine box_event ?hg (N:=3) ?hd (cs:=#[.int .i64 a1_0,.slice A1_1 l1_1.length c1_1,.slice A1_2 l1_2.length c1_2]) (t:=30) ?hr ?_;(case hd => rfl);(case hg => rfl);(case hr => first|(go_simp;done)|(go_simp;rfl));intro gb102 hg w15 hbox hb;have n0_:=Aside0.mk (blk_below (g:=gb101) (o:=.cells #[.int .i64 a0_0,.slice A0_1 l0_1.length c0_1,.slice A0_2 l0_2.length c0_2,.slice A0_3 l0_3.length c0_3,.slice A0_4 l0_4.length c0_4,.slice A0_5 l0_5.length c0_5] 26 (0,0)) (by (with_reducible repeat (first|refine blk_drewN ?_ _|refine blk_drew ?_|refine blk_alloc ?_ _));exact BK101.out) hb);have n1_:=Aside0.mk (below_step (by repeat (first|(with_reducible first|exact HB.out|apply below_alloc|apply pw_below_drewN|apply below_drew1|refine below_set ?_ GE101.out)|exact HB.out)) hb);have n2_:=Aside0.mk (hbox);have n3_:=Aside0.mk ((by rw [hg];exact (below_size (by repeat (first|(with_reducible first|exact HB.out|apply below_alloc|apply pw_below_drewN|apply below_drew1|refine below_set ?_ GE101.out)|exact HB.out))) : w.heap.size ≤ gb102));have n4_:=Aside0.mk ((by rw [hg];exact (below_size (by repeat (first|(with_reducible first|exact HB.out|apply below_alloc|apply pw_below_drewN|apply below_drew1|refine below_set ?_ GE101.out)|exact HB.out))) : w.heap.size ≤ gb102));have n5_:=Aside0.mk ((by rw [hg];exact Nat.ne_of_lt (blk_lt (g:=gb101) (o:=.cells #[.int .i64 a0_0,.slice A0_1 l0_1.length c0_1,.slice A0_2 l0_2.length c0_2,.slice A0_3 l0_3.length c0_3,.slice A0_4 l0_4.length c0_4,.slice A0_5 l0_5.length c0_5] 26 (0,0)) (by (with_reducible repeat (first|refine blk_drewN ?_ _|refine blk_drew ?_|refine blk_alloc ?_ _));exact BK101.out)) : gb101 ≠ gb102));have n6_:=Aside0.mk ((by rw [hg];exact Nat.ne_of_gt (blk_lt (g:=gb101) (o:=.cells #[.int .i64 a0_0,.slice A0_1 l0_1.length c0_1,.slice A0_2 l0_2.length c0_2,.slice A0_3 l0_3.length c0_3,.slice A0_4 l0_4.length c0_4,.slice A0_5 l0_5.length c0_5] 26 (0,0)) (by (with_reducible repeat (first|refine blk_drewN ?_ _|refine blk_drew ?_|refine blk_alloc ?_ _));exact BK101.out)) : gb102 ≠ gb101));clear BK101;clear HB;have BK101:=n0_;have HB:=n1_;have BK102:=n2_;have GW102:=n3_;have GE102:=n4_;have NB101_102:=n5_;have NB102_101:=n6_;clear n0_ n1_ n2_ n3_ n4_ n5_ n6_;clear hb hbox hg;have hnb16:=NB101_102.out;have hnc16:=NB102_101.out;have hcz17_0 : w15.cell? ⟨gb101,0,none⟩ = some (.int .i64 a0_0):=(blk_cell BK101.out 0).trans rfl;have hcz17_1 : w15.cell? ⟨gb101,1,none⟩ = some (.slice A0_1 l0_1.length c0_1):=(blk_cell BK101.out 1).trans rfl;have hcz17_2 : w15.cell? ⟨gb101,2,none⟩ = some (.slice A0_2 l0_2.length c0_2):=(blk_cell BK101.out 2).trans rfl;have hcz17_3 : w15.cell? ⟨gb101,3,none⟩ = some (.slice A0_3 l0_3.length c0_3):=(blk_cell BK101.out 3).trans rfl;have hcz17_4 : w15.cell? ⟨gb101,4,none⟩ = some (.slice A0_4 l0_4.length c0_4):=(blk_cell BK101.out 4).trans rfl;have hcz17_5 : w15.cell? ⟨gb101,5,none⟩ = some (.slice A0_5 l0_5.length c0_5):=(blk_cell BK101.out 5).trans rfl;have hfz17_0:=blk_frozen BK101.out 0;have hfz17_1:=blk_frozen BK101.out 1;have hfz17_2:=blk_frozen BK101.out 2;have hfz17_3:=blk_frozen BK101.out 3;have hfz17_4:=blk_frozen BK101.out 4;have hfz17_5:=blk_frozen BK101.out 5))
    go_ret
    exact ⟨by first|rfl|(simp [errW_none,errW_some] <;> rfl)|(simp [*,errW_none,errW_some] <;> rfl),by repeat (first|(with_reducible first|exact HB.out|apply below_alloc|apply pw_below_drewN|apply below_drew1|refine below_set ?_ GE101.out|refine below_set ?_ GE102.out)|exact HB.out)⟩
   ·
    rw [if_neg c13] at H
    have c13b0 : decide (300 < (l0_2.length : Int)) = false:=decide_eq_false c13
    have c13b1 : decide (300 < l0_2.length) = false:=decide_eq_false (by omega)
    clear c13
    by_cases c18 : (l0_5.length : Int) > 300
    ·
     rw [if_pos c18] at H
     have c18b0 : decide (300 < (l0_5.length : Int)) = true:=decide_eq_true c18
     have c18b1 : decide (300 < l0_5.length) = true:=decide_eq_true (by omega)
     clear c18
     obtain rfl:=Option.some.inj H
     go_enter Tryd.func13,Tryd.ntmps13
     go_wp2_with (first|((with_reducible refine gate_dst (N:=2) rfl ?_);(try (refine gate_guard (by rfl) ?_;dsimp only));refine box_event ?hg (N:=2) ?hd (cs:=#[.int .i64 a0_0,.slice A0_1 l0_1.length c0_1,.slice A0_2 l0_2.length c0_2,.slice A0_3 l0_3.length c0_3,.slice A0_4 l0_4.length c0_4,.slice A0_5 l0_5.length c0_5]) (t:=26) ?hr ?_;(case hd => rfl);(case hg => rfl);(case hr => first|(go_simp;done)|(go_simp;rfl));intro gb101 hg w19 hbox hb;have n0_:=Aside0.mk (below_step (by repeat (first|(with_reducible first|exact HB.out|apply below_alloc|apply pw_below_drewN|apply below_drew1)|exact HB.out)) hb);have n1_:=Aside0.mk (hbox);have n2_:=Aside0.mk ((by rw [hg];exact (below_size (by repeat (first|(with_reducible first|exact HB.out|apply below_alloc|apply pw_below_drewN|apply below_drew1)|exact HB.out))) : w.heap.size ≤ gb101));have n3_:=Aside0.mk ((by rw [hg];exact (below_size (by repeat (first|(with_reducible first|exact HB.out|apply below_alloc|apply pw_below_drewN|apply below_drew1)|exact HB.out))) : w.heap.size ≤ gb101));clear HB;have HB:=n0_;have BK101:=n1_;have GW101:=n2_;have GE101:=n3_;clear n0_ n1_ n2_ n3_;clear hb hbox hg)|((with_reducible refine gate_dst (N:=3) rfl ?_);(try (refine gate_guard (by rfl) ?_;dsimp only));refine box_event ?hg (N:=3) ?hd (cs:=#[.int .i64 a1_0,.slice A1_1 l1_1.length c1_1,.slice A1_2 l1_2.length c1_2]) (t:=30) ?hr ?_;(case hd => rfl);(case hg => rfl);(case hr => first|(go_simp;done)|(go_simp;rfl));intro gb102 hg w20 hbox hb;have n0_:=Aside0.mk (blk_below (g:=gb101) (o:=.cells #[.int .i64 a0_0,.slice A0_1 l0_1.length c0_1,.slice A0_2 l0_2.length c0_2,.slice A0_3 l0_3.length c0_3,.slice A0_4 l0_4.length c0_4,.slice A0_5 l0_5.length c0_5] 26 (0,0)) (by (with_reducible repeat (first|refine blk_drewN ?_ _|refine blk_drew ?_|refine blk_alloc ?_ _));exact BK101.out) hb);have n1_:=Aside0.mk (below_step (by repeat (first|(with_reducible first|exact HB.out|apply below_alloc|apply pw_below_drewN|apply below_drew1|refine below_set ?_ GE101.out)|exact HB.out)) hb);have n2_:=Aside0.mk (hbox);have n3_:=Aside0.mk ((by rw [hg];exact (below_size (by repeat (first|(with_reducible first|exact HB.out|apply below_alloc|apply pw_below_drewN|apply below_drew1|refine below_set ?_ GE101.out)|exact HB.out))) : w.heap.size ≤ gb102));have n4_:=Aside0.mk ((by rw [hg];exact (below_size (by repeat (first|(with_reducible first|exact HB.out|apply below_alloc|apply pw_below_drewN|apply below_drew1|refine below_set ?_ GE101.out)|exact HB.out))) : w.heap.size ≤ gb102));have n5_:=Aside0.mk ((by rw [hg];exact Nat.ne_of_lt (blk_lt (g:=gb101) (o:=.cells #[.int .i64 a0_0,.slice A0_1 l0_1.length c0_1,.slice A0_2 l0_2.length c0_2,.slice A0_3 l0_3.length c0_3,.slice A0_4 l0_4.length c0_4,.slice A0_5 l0_5.length c0_5] 26 (0,0)) (by (with_reducible repeat (first|refine blk_drewN ?_ _|refine blk_drew ?_|refine blk_alloc ?_ _));exact BK101.out)) : gb101 ≠ gb102));have n6_:=Aside0.mk ((by rw [hg];exact Nat.ne_of_gt (blk_lt (g:=gb101) (o:=.cells #[.int .i64 a0_0,.slice A0_1 l0_1.length c0_1,.slice A0_2 l0_2.length c0_2,.slice A0_3 l0_3.length c0_3,.slice A0_4 l0_4.length c0_4,.slice A0_5 l0_5.length c0_5] 26 (0,0)) (by (with_reducible repeat (first|refine blk_drewN ?_ _|refine blk_drew ?_|refine blk_alloc ?_ _));exact BK101.out)) : gb102 ≠ gb101));clear BK101;clear HB;have BK101:=n0_;have HB:=n1_;have BK102:=n2_;have GW102:=n3_;have GE102:=n4_;have NB101_102:=n5_;have NB102_101:=n6_;clear n0_ n1_ n2_ n3_ n4_ n5_ n6_;clear hb hbox hg;have hnb21:=NB101_102.out;have hnc21:=NB102_101.out;have hcz22_0 : w20.cell? ⟨gb101,0,none⟩ = some (.int .i64 a0_0):=(blk_cell BK101.out 0).trans rfl;have hcz22_1 : w20.cell? ⟨gb101,1,none⟩ = some (.slice A0_1 l0_1.length c0_1):=(blk_cell BK101.out 1).trans rfl;have hcz22_2 : w20.cell? ⟨gb101,2,none⟩ = some (.slice A0_2 l0_2.length c0_2):=(blk_cell BK101.out 2).trans rfl;have hcz22_3 : w20.cell? ⟨gb101,3,none⟩ = some (.slice A0_3 l0_3.length c0_3):=(blk_cell BK101.out 3).trans rfl;have hcz22_4 : w20.cell? ⟨gb101,4,none⟩ = some (.slice A0_4 l0_4.length c0_4):=(blk_cell BK101.out 4).trans rfl;have hcz22_5 : w20.cell? ⟨gb101,5,none⟩ = some (.slice A0_5 l0_5.length c0_5):=(blk_cell BK101.out 5).trans rfl;have hfz22_0:=blk_frozen BK101.out 0;have hfz22_1:=blk_frozen BK101.out 1;have hfz22_2:=blk_frozen BK101.out 2;have hfz22_3:=blk_frozen BK101.out 3;have hfz22_4:=blk_frozen BK101.out 4;have hfz22_5:=blk_frozen BK101.out 5))
     go_ret
     exact ⟨by first|rfl|(simp [errW_none,errW_some] <;> rfl)|(simp [*,errW_none,errW_some] <;> rfl),by repeat (first|(with_reducible first|exact HB.out|apply below_alloc|apply pw_below_drewN|apply below_drew1|refine below_set ?_ GE101.out|refine below_set ?_ GE102.out)|exact HB.out)⟩
    ·
     rw [if_neg c18] at H
     have c18b0 : decide (300 < (l0_5.length : Int)) = false:=decide_eq_false c18
     have c18b1 : decide (300 < l0_5.length) = false:=decide_eq_false (by omega)
     clear c18
     obtain rfl:=Option.some.inj H
     go_enter Tryd.func13,Tryd.ntmps13
     go_wp2_with (first|((with_reducible refine gate_dst (N:=2) rfl ?_);(try (refine gate_guard (by rfl) ?_;dsimp only));refine box_event ?hg (N:=2) ?hd (cs:=#[.int .i64 a0_0,.slice A0_1 l0_1.length c0_1,.slice A0_2 l0_2.length c0_2,.slice A0_3 l0_3.length c0_3,.slice A0_4 l0_4.length c0_4,.slice A0_5 l0_5.length c0_5]) (t:=26) ?hr ?_;(case hd => rfl);(case hg => rfl);(case hr => first|(go_simp;done)|(go_simp;rfl));intro gb101 hg w23 hbox hb;have n0_:=Aside0.mk (below_step (by repeat (first|(with_reducible first|exact HB.out|apply below_alloc|apply pw_below_drewN|apply below_drew1)|exact HB.out)) hb);have n1_:=Aside0.mk (hbox);have n2_:=Aside0.mk ((by rw [hg];exact (below_size (by repeat (first|(with_reducible first|exact HB.out|apply below_alloc|apply pw_below_drewN|apply below_drew1)|exact HB.out))) : w.heap.size ≤ gb101));have n3_:=Aside0.mk ((by rw [hg];exact (below_size (by repeat (first|(with_reducible first|exact HB.out|apply below_alloc|apply pw_below_drewN|apply below_drew1)|exact HB.out))) : w.heap.size ≤ gb101));clear HB;have HB:=n0_;have BK101:=n1_;have GW101:=n2_;have GE101:=n3_;clear n0_ n1_ n2_ n3_;clear hb hbox hg)|((with_reducible refine gate_dst (N:=3) rfl ?_);(try (refine gate_guard (by rfl) ?_;dsimp only));refine box_event ?hg (N:=3) ?hd (cs:=#[.int .i64 a1_0,.slice A1_1 l1_1.length c1_1,.slice A1_2 l1_2.length c1_2]) (t:=30) ?hr ?_;(case hd => rfl);(case hg => rfl);(case hr => first|(go_simp;done)|(go_simp;rfl));intro gb102 hg w24 hbox hb;have n0_:=Aside0.mk (blk_below (g:=gb101) (o:=.cells #[.int .i64 a0_0,.slice A0_1 l0_1.length c0_1,.slice A0_2 l0_2.length c0_2,.slice A0_3 l0_3.length c0_3,.slice A0_4 l0_4.length c0_4,.slice A0_5 l0_5.length c0_5] 26 (0,0)) (by (with_reducible repeat (first|refine blk_drewN ?_ _|refine blk_drew ?_|refine blk_alloc ?_ _));exact BK101.out) hb);have n1_:=Aside0.mk (below_step (by repeat (first|(with_reducible first|exact HB.out|apply below_alloc|apply pw_below_drewN|apply below_drew1|refine below_set ?_ GE101.out)|exact HB.out)) hb);have n2_:=Aside0.mk (hbox);have n3_:=Aside0.mk ((by rw [hg];exact (below_size (by repeat (first|(with_reducible first|exact HB.out|apply below_alloc|apply pw_below_drewN|apply below_drew1|refine below_set ?_ GE101.out)|exact HB.out))) : w.heap.size ≤ gb102));have n4_:=Aside0.mk ((by rw [hg];exact (below_size (by repeat (first|(with_reducible first|exact HB.out|apply below_alloc|apply pw_below_drewN|apply below_drew1|refine below_set ?_ GE101.out)|exact HB.out))) : w.heap.size ≤ gb102));have n5_:=Aside0.mk ((by rw [hg];exact Nat.ne_of_lt (blk_lt (g:=gb101) (o:=.cells #[.int .i64 a0_0,.slice A0_1 l0_1.length c0_1,.slice A0_2 l0_2.length c0_2,.slice A0_3 l0_3.length c0_3,.slice A0_4 l0_4.length c0_4,.slice A0_5 l0_5.length c0_5] 26 (0,0)) (by (with_reducible repeat (first|refine blk_drewN ?_ _|refine blk_drew ?_|refine blk_alloc ?_ _));exact BK101.out)) : gb101 ≠ gb102));have n6_:=Aside0.mk ((by rw [hg];exact Nat.ne_of_gt (blk_lt (g:=gb101) (o:=.cells #[.int .i64 a0_0,.slice A0_1 l0_1.length c0_1,.slice A0_2 l0_2.length c0_2,.slice A0_3 l0_3.length c0_3,.slice A0_4 l0_4.length c0_4,.slice A0_5 l0_5.length c0_5] 26 (0,0)) (by (with_reducible repeat (first|refine blk_drewN ?_ _|refine blk_drew ?_|refine blk_alloc ?_ _));exact BK101.out)) : gb102 ≠ gb101));clear BK101;clear HB;have BK101:=n0_;have HB:=n1_;have BK102:=n2_;have GW102:=n3_;have GE102:=n4_;have NB101_102:=n5_;have NB102_101:=n6_;clear n0_ n1_ n2_ n3_ n4_ n5_ n6_;clear hb hbox hg;have hnb25:=NB101_102.out;have hnc25:=NB102_101.out;have hcz26_0 : w24.cell? ⟨gb101,0,none⟩ = some (.int .i64 a0_0):=(blk_cell BK101.out 0).trans rfl;have hcz26_1 : w24.cell? ⟨gb101,1,none⟩ = some (.slice A0_1 l0_1.length c0_1):=(blk_cell BK101.out 1).trans rfl;have hcz26_2 : w24.cell? ⟨gb101,2,none⟩ = some (.slice A0_2 l0_2.length c0_2):=(blk_cell BK101.out 2).trans rfl;have hcz26_3 : w24.cell? ⟨gb101,3,none⟩ = some (.slice A0_3 l0_3.length c0_3):=(blk_cell BK101.out 3).trans rfl;have hcz26_4 : w24.cell? ⟨gb101,4,none⟩ = some (.slice A0_4 l0_4.length c0_4):=(blk_cell BK101.out 4).trans rfl;have hcz26_5 : w24.cell? ⟨gb101,5,none⟩ = some (.slice A0_5 l0_5.length c0_5):=(blk_cell BK101.out 5).trans rfl;have hfz26_0:=blk_frozen BK101.out 0;have hfz26_1:=blk_frozen BK101.out 1;have hfz26_2:=blk_frozen BK101.out 2;have hfz26_3:=blk_frozen BK101.out 3;have hfz26_4:=blk_frozen BK101.out 4;have hfz26_5:=blk_frozen BK101.out 5;have hcz27_0 : w24.cell? ⟨gb102,0,none⟩ = some (.int .i64 a1_0):=(blk_cell BK102.out 0).trans rfl;have hcz27_1 : w24.cell? ⟨gb102,1,none⟩ = some (.slice A1_1 l1_1.length c1_1):=(blk_cell BK102.out 1).trans rfl;have hcz27_2 : w24.cell? ⟨gb102,2,none⟩ = some (.slice A1_2 l1_2.length c1_2):=(blk_cell BK102.out 2).trans rfl;have hfz27_0:=blk_frozen BK102.out 0;have hfz27_1:=blk_frozen BK102.out 1;have hfz27_2:=blk_frozen BK102.out 2))
     go_ret
     exact ⟨by first|rfl|(simp [errW_none,errW_some] <;> rfl)|(simp [*,errW_none,errW_some] <;> rfl),by repeat (first|(with_reducible first|exact HB.out|apply below_alloc|apply pw_below_drewN|apply below_drew1|refine below_set ?_ GE101.out|refine below_set ?_ GE102.out)|exact HB.out)⟩

end Go.Proofs.YthpnooookkpkaaaDoor.F
/- A function of the program as a plain Lean function, and that the machine's call comes to it: written by a program of this session over the kit's print. -/
namespace Go.Proofs.YthpnooookkpkaaaDoor.F
open Go.RowKit Go.Proofs.YthpnooookkpkaaaDoorW.PrintWords Go.Proofs.YthpnooookkpkaaaDoorW.PrintLast Go.Proofs.YthpnooookkpkaaaDoorW.PrintMore
attribute [local go_sem] max2_int min2_int max_two min_two max_three min_three max_four min_four   -- for this text's walks alone
set_option linter.unusedVariables false
set_option linter.unusedSimpArgs false

/-! ### inquestlaw07_one: function 59 -/
def inquestlaw07_one.f  : Option (Int × (List (S71)) × (List (S84)) × List Int × List Int × List Int):=some (1,(([(⟨2,2⟩ : S71)] : List (S71))),([] : List (S84)),([] : List Int),(([4] : List Int)),([] : List Int))
set_option maxHeartbeats 8000000 in
set_option maxRecDepth 100000 in
theorem inquestlaw07_one.calls  (r1 : Int) (r2 : List (S71)) (r3 : List (S84)) (r4 : List Int) (r5 : List Int) (r6 : List Int) (w : World) (h : inquestlaw07_one.f  = some (r1,r2,r3,r4,r5,r6)) :
  Calls Tryd.prog 59 #[] w fun e w' => ∃ v1_ v2_ v3_ v4_ v5_ : Value,e = .returned (.agg #[.int .i64 r1,v1_,v2_,v3_,v4_,v5_])∧Kd.R k71 71 w' w.heap.size (fun _ => True) v1_ r2∧Kd.R k84 84 w' w.heap.size (fun _ => True) v2_ r3∧Kd.R (Kd.int .u32) 44 w' w.heap.size (fun k_ => some k_ ≠ (v4_ : Value).ownBlock∧some k_ ≠ (v5_ : Value).ownBlock) v3_ r4∧Kd.R (Kd.int .u32) 44 w' w.heap.size (fun k_ => some k_ ≠ (v3_ : Value).ownBlock∧some k_ ≠ (v5_ : Value).ownBlock) v4_ r5∧Kd.R (Kd.int .u32) 44 w' w.heap.size (fun k_ => some k_ ≠ (v3_ : Value).ownBlock∧some k_ ≠ (v4_ : Value).ownBlock) v5_ r6∧Below w.heap.size w w':=by
 have hu26:=Tryd.underlying26
 have hu71:=Tryd.underlying71
 have HB:=Aside0.mk (Below.refl w.heap.size w)
 have H : (some (1,(([(⟨2,2⟩ : S71)] : List (S71))),([] : List (S84)),([] : List Int),(([4] : List Int)),([] : List Int))) = some (r1,r2,r3,r4,r5,r6):=h
 clear h
 obtain ⟨y102,hy102⟩ : ∃ y_ : List (S71),y_ = (([(⟨2,2⟩ : S71)] : List (S71))):=⟨_,rfl⟩
 replace H : (some (1,y102,([] : List (S84)),([] : List Int),(([4] : List Int)),([] : List Int))) = some (r1,r2,r3,r4,r5,r6):=by first|(rw [hy102];with_reducible exact H)|(have H2_:=(Option.bind_some _ _).symm.trans H;rw [hy102];with_reducible exact H2_)|(have H2_:=(Option.bind_some _ _).symm.trans H;with_reducible exact H2_)|with_reducible exact H|(rw [hy102];exact H)|exact H
 have Ny102:=Aside0.mk hy102
 clear hy102
 obtain ⟨y105,hy105⟩ : ∃ y_ : List Int,y_ = (([4] : List Int)):=⟨_,rfl⟩
 replace H : (some (1,y102,([] : List (S84)),([] : List Int),y105,([] : List Int))) = some (r1,r2,r3,r4,r5,r6):=by first|(rw [hy105];with_reducible exact H)|(have H2_:=(Option.bind_some _ _).symm.trans H;rw [hy105];with_reducible exact H2_)|(have H2_:=(Option.bind_some _ _).symm.trans H;with_reducible exact H2_)|with_reducible exact H|(rw [hy105];exact H)|exact H
 have Ny105:=Aside0.mk hy105
 clear hy105
 simp only [Option.some.injEq,Prod.mk.injEq] at H
 obtain ⟨rfl,rfl,rfl,rfl,rfl,rfl⟩:=H
 go_enter Tryd.func59,Tryd.ntmps59
 go_wp2_with (first|((with_reducible refine gate_dst (N:=0) rfl ?_);refine box_event ?hg (N:=0) ?hd (cs:=#[.int .i64 0,.slice none 0 0,.slice none 0 0,.slice none 0 0,.slice none 0 0,.slice none 0 0]) (t:=26) ?hr ?_;(case hd => rfl);(case hg => rfl);(case hr => first|(go_simp;done)|(go_simp;rfl));intro gb101 hg w1 hbox hb;have n0_:=Aside0.mk (below_step (by repeat (first|(with_reducible first|exact HB.out|apply below_alloc|apply pw_below_drewN|apply below_drew1)|exact HB.out)) hb);have n1_:=Aside0.mk (hbox);have n2_:=Aside0.mk ((by rw [hg];exact (below_size (by repeat (first|(with_reducible first|exact HB.out|apply below_alloc|apply pw_below_drewN|apply below_drew1)|exact HB.out))) : w.heap.size ≤ gb101));have n3_:=Aside0.mk ((by rw [hg];exact (below_size (by repeat (first|(with_reducible first|exact HB.out|apply below_alloc|apply pw_below_drewN|apply below_drew1)|exact HB.out))) : w.heap.size ≤ gb101));clear HB;have HB:=n0_;have BK101:=n1_;have GW101:=n2_;have GE101:=n3_;clear n0_ n1_ n2_ n3_;clear hb hbox hg)|((with_reducible refine gate_dst (N:=2) rfl ?_);refine Kd.R_lit k71 _ 71 ?hg (N:=2) ?hd (xs:=([(⟨2,2⟩ : S71)] : List (S71))) (inner:=[.int .u32 2,.int .u8 2]) (ok:=fun _ => True) (okp:=fun _ => True) ?hr ?hp (fun _ hk => hk) trivial (Below.refl _ _) (Nat.le_refl _) (by simp) ?_;(case hd => rfl);(case hg => rfl);(case hr => first|(go_simp;done)|(go_simp;rfl));(case hp => exact (Reps.c2 (show Kd.M k71 _ _ _ (⟨2,2⟩ : S71) [.int .u32 2,.int .u8 2] from (k71_mkM _ _ _ (⟨2,2⟩ : S71) )) (Reps.none _ _)));intro v103 w2 ho3 hb hg_ hnew_;clear hg_ hnew_;(first|rw [← Ny102.out] at ho3|(simp only [Int.reduceToNat] at ho3;rw [← Ny102.out] at ho3));have n0_:=Aside0.mk (Kd.R_lower ho3 (below_size (by repeat (first|(with_reducible first|exact HB.out|apply below_alloc|apply pw_below_drewN|apply below_drew1|refine below_set ?_ GE101.out)|exact HB.out))));have n1_:=Aside0.mk (blk_below (g:=gb101) (o:=.cells #[.int .i64 0,.slice none 0 0,.slice none 0 0,.slice none 0 0,.slice none 0 0,.slice none 0 0] 26 (0,0)) (by (with_reducible repeat (first|refine blk_drewN ?_ _|refine blk_drew ?_|refine blk_alloc ?_ _));exact BK101.out) hb);have n2_:=Aside0.mk (below_step (by repeat (first|(with_reducible first|exact HB.out|apply below_alloc|apply pw_below_drewN|apply below_drew1|refine below_set ?_ GE101.out)|exact HB.out)) hb);clear BK101;clear HB;have HO104:=n0_;have BK101:=n1_;have HB:=n2_;clear n0_ n1_ n2_;clear hb ho3)|((with_reducible refine gate_dst (N:=3) rfl ?_);refine Kd.R_lit (Kd.int .u32) _ 44 ?hg (N:=3) ?hd (xs:=([4] : List Int)) (inner:=[.int .u32 4]) (ok:=fun _ => True) (okp:=fun _ => True) ?hr ?hp (fun _ hk => hk) trivial (Below.refl _ _) (Nat.le_refl _) (by simp) ?_;(case hd => rfl);(case hg => rfl);(case hr => first|(go_simp;done)|(go_simp;rfl));(case hp => exact (Reps.one (show Kd.M (Kd.int .u32) _ _ _ 4 [.int .u32 4] from rfl) (Reps.none _ _)));intro v106 w4 ho5 hb hg_ hnew_;clear hg_ hnew_;(first|rw [← Ny105.out] at ho5|(simp only [Int.reduceToNat] at ho5;rw [← Ny105.out] at ho5));have n0_:=Aside0.mk (Kd.R_below (by (with_reducible repeat (first|apply Kd.R_alloc|apply Kd.R_drewN|apply Kd.R_drew));exact HO104.out) hb);have n1_:=Aside0.mk (Kd.R_lower ho5 (below_size (by repeat (first|(with_reducible first|exact HB.out|apply below_alloc|apply pw_below_drewN|apply below_drew1|refine below_set ?_ GE101.out)|exact HB.out))));have n2_:=Aside0.mk (blk_below (g:=gb101) (o:=.cells #[.int .i64 0,.slice none 0 0,.slice none 0 0,.slice none 0 0,.slice none 0 0,.slice none 0 0] 26 (0,0)) (by (with_reducible repeat (first|refine blk_drewN ?_ _|refine blk_drew ?_|refine blk_alloc ?_ _));exact BK101.out) hb);have n3_:=Aside0.mk (below_step (by repeat (first|(with_reducible first|exact HB.out|apply below_alloc|apply pw_below_drewN|apply below_drew1|refine below_set ?_ GE101.out)|exact HB.out)) hb);clear HO104;clear BK101;clear HB;have HO104:=n0_;have HO107:=n1_;have BK101:=n2_;have HB:=n3_;clear n0_ n1_ n2_ n3_;clear hb ho5;obtain ⟨Ao6,co6,eo6⟩:=Kd.R_slice HO107.out;subst eo6;obtain ⟨Ao7,co7,eo7⟩:=Kd.R_slice HO104.out;subst eo7;have hcz8_0 : w4.cell? ⟨gb101,0,none⟩ = some (.int .i64 0):=(blk_cell BK101.out 0).trans rfl;have hcz8_1 : w4.cell? ⟨gb101,1,none⟩ = some (.slice none 0 0):=(blk_cell BK101.out 1).trans rfl;have hcz8_2 : w4.cell? ⟨gb101,2,none⟩ = some (.slice none 0 0):=(blk_cell BK101.out 2).trans rfl;have hcz8_3 : w4.cell? ⟨gb101,3,none⟩ = some (.slice none 0 0):=(blk_cell BK101.out 3).trans rfl;have hcz8_4 : w4.cell? ⟨gb101,4,none⟩ = some (.slice none 0 0):=(blk_cell BK101.out 4).trans rfl;have hcz8_5 : w4.cell? ⟨gb101,5,none⟩ = some (.slice none 0 0):=(blk_cell BK101.out 5).trans rfl;have hfz8_0:=blk_frozen BK101.out 0;have hfz8_1:=blk_frozen BK101.out 1;have hfz8_2:=blk_frozen BK101.out 2;have hfz8_3:=blk_frozen BK101.out 3;have hfz8_4:=blk_frozen BK101.out 4;have hfz8_5:=blk_frozen BK101.out 5))
 refine bodyPost_ret (results_cell_row rfl _ _ gb101 26 #[.int .i64 1,.slice Ao7 y102.length co7,.slice none 0 0,.slice none 0 0,.slice Ao6 y105.length co6,.slice none 0 0] (0,0) _ rfl (by (with_reducible repeat (first|refine blk_drewN ?_ _|refine blk_drew ?_|refine blk_alloc ?_ _));refine blk_put (cs:=#[.int .i64 1,.slice Ao7 y102.length co7,.slice none 0 0,.slice none 0 0,.slice Ao6 y105.length co6,.slice none 0 0]) ?_ 5 _ rfl;(with_reducible repeat (first|refine blk_drewN ?_ _|refine blk_drew ?_|refine blk_alloc ?_ _));refine blk_put (cs:=#[.int .i64 1,.slice Ao7 y102.length co7,.slice none 0 0,.slice none 0 0,.slice none 0 0,.slice none 0 0]) ?_ 4 _ rfl;(with_reducible repeat (first|refine blk_drewN ?_ _|refine blk_drew ?_|refine blk_alloc ?_ _));refine blk_put (cs:=#[.int .i64 1,.slice Ao7 y102.length co7,.slice none 0 0,.slice none 0 0,.slice none 0 0,.slice none 0 0]) ?_ 3 _ rfl;(with_reducible repeat (first|refine blk_drewN ?_ _|refine blk_drew ?_|refine blk_alloc ?_ _));refine blk_put (cs:=#[.int .i64 1,.slice Ao7 y102.length co7,.slice none 0 0,.slice none 0 0,.slice none 0 0,.slice none 0 0]) ?_ 2 _ rfl;(with_reducible repeat (first|refine blk_drewN ?_ _|refine blk_drew ?_|refine blk_alloc ?_ _));refine blk_put (cs:=#[.int .i64 1,.slice none 0 0,.slice none 0 0,.slice none 0 0,.slice none 0 0,.slice none 0 0]) ?_ 1 _ rfl;(with_reducible repeat (first|refine blk_drewN ?_ _|refine blk_drew ?_|refine blk_alloc ?_ _));refine blk_put (cs:=#[.int .i64 0,.slice none 0 0,.slice none 0 0,.slice none 0 0,.slice none 0 0,.slice none 0 0]) ?_ 0 _ rfl;(with_reducible repeat (first|refine blk_drewN ?_ _|refine blk_drew ?_|refine blk_alloc ?_ _));exact BK101.out) Tryd.underlying26 rfl (by kernel_rfl)) rfl ?_
 exact ⟨_,_,_,_,_,by first|rfl|(simp [errW_none,errW_some] <;> rfl)|(simp [*,errW_none,errW_some] <;> rfl),by (with_reducible repeat (first|apply Kd.R_alloc|apply Kd.R_drewN|apply Kd.R_drew));exact Kd.R_mono (Kd.R_far (p:=⟨gb101,5,none⟩) (Kd.R_far (p:=⟨gb101,4,none⟩) (Kd.R_far (p:=⟨gb101,3,none⟩) (Kd.R_far (p:=⟨gb101,2,none⟩) (Kd.R_far (p:=⟨gb101,1,none⟩) (Kd.R_far (p:=⟨gb101,0,none⟩) (Kd.R_types HO104.out BK101.out (by decide)) (fun _ hk => hk.2) (.int .i64 1)) (fun _ hk => hk.2) (.slice Ao7 y102.length co7)) (fun _ hk => hk.2) (.slice none 0 0)) (fun _ hk => hk.2) (.slice none 0 0)) (fun _ hk => hk.2) (.slice Ao6 y105.length co6)) (fun _ hk => hk.2) (.slice none 0 0)) (fun _ hk => trivial),by first|exact Kd.R_nil _ _ _ _ _|exact Kd.N_nil _ _ _ _ _|exact Kd.V_nil _ _ _ _ _|exact Kd.Q_nil _ _ _ _ _|exact Kd.S_nil _ _ _ _ _,by first|exact Kd.R_nil _ _ _ _ _|exact Kd.N_nil _ _ _ _ _|exact Kd.V_nil _ _ _ _ _|exact Kd.Q_nil _ _ _ _ _|exact Kd.S_nil _ _ _ _ _,by (with_reducible repeat (first|apply Kd.R_alloc|apply Kd.R_drewN|apply Kd.R_drew));exact Kd.R_mono (Kd.R_far (p:=⟨gb101,5,none⟩) (Kd.R_far (p:=⟨gb101,4,none⟩) (Kd.R_far (p:=⟨gb101,3,none⟩) (Kd.R_far (p:=⟨gb101,2,none⟩) (Kd.R_far (p:=⟨gb101,1,none⟩) (Kd.R_far (p:=⟨gb101,0,none⟩) (Kd.R_types HO107.out BK101.out (by decide)) (fun _ hk => hk.2) (.int .i64 1)) (fun _ hk => hk.2) (.slice Ao7 y102.length co7)) (fun _ hk => hk.2) (.slice none 0 0)) (fun _ hk => hk.2) (.slice none 0 0)) (fun _ hk => hk.2) (.slice Ao6 y105.length co6)) (fun _ hk => hk.2) (.slice none 0 0)) (fun _ hk => ⟨(by simp [Value.ownBlock]),(by simp [Value.ownBlock])⟩),by first|exact Kd.R_nil _ _ _ _ _|exact Kd.N_nil _ _ _ _ _|exact Kd.V_nil _ _ _ _ _|exact Kd.Q_nil _ _ _ _ _|exact Kd.S_nil _ _ _ _ _,by repeat (first|(with_reducible first|exact HB.out|apply below_alloc|apply pw_below_drewN|apply below_drew1|refine below_set ?_ GE101.out)|exact HB.out)⟩

end Go.Proofs.YthpnooookkpkaaaDoor.F
/- A function of the program as a plain Lean function, and that the machine's call comes to it: written by a program of this session over the kit's print. -/
namespace Go.Proofs.YthpnooookkpkaaaDoor.F
open Go.RowKit Go.Proofs.YthpnooookkpkaaaDoorW.PrintWords Go.Proofs.YthpnooookkpkaaaDoorW.PrintLast Go.Proofs.YthpnooookkpkaaaDoorW.PrintMore
attribute [local go_sem] max2_int min2_int max_two min_two max_three min_three max_four min_four   -- for this text's walks alone
set_option linter.unusedVariables false
set_option linter.unusedSimpArgs false

/-! ### inquestlaw07_trace: function 60 -/
def inquestlaw07_trace.f (a0 : Int) (a1 : Int) (a2 : Int) : Option (Int × List Int × (List (List Int))):=some (0,(([a0] : List Int)),(([(([a1] : List Int)),(([a2] : List Int))] : List (List Int))))
set_option maxHeartbeats 8000000 in
set_option maxRecDepth 100000 in
theorem inquestlaw07_trace.calls (a0 : Int) (a1 : Int) (a2 : Int) (r1 : Int) (r2 : List Int) (r3 : List (List Int)) (w : World) (h : inquestlaw07_trace.f a0 a1 a2 = some (r1,r2,r3)) :
  Calls Tryd.prog 60 #[.int .u8 a0,.int .u8 a1,.int .u8 a2] w fun e w' => ∃ v1_ v2_ : Value,e = .returned (.agg #[.int .i64 r1,v1_,v2_])∧Kd.R (Kd.int .u8) 5 w' w.heap.size (fun k_ => (w.heap.size ≤ k_)) v1_ r2∧Kd.N (Kd.slice 5 (Kd.int .u8)) 27 w' w.heap.size (fun k_ => (w.heap.size ≤ k_)∧some k_ ≠ (v1_ : Value).ownBlock) v2_ r3∧Below w.heap.size w w':=by
 have hu30:=Tryd.underlying30
 have HB:=Aside0.mk (Below.refl w.heap.size w)
 have H : (some (0,(([a0] : List Int)),(([(([a1] : List Int)),(([a2] : List Int))] : List (List Int))))) = some (r1,r2,r3):=h
 clear h
 obtain ⟨y102,hy102⟩ : ∃ y_ : List Int,y_ = (([a0] : List Int)):=⟨_,rfl⟩
 replace H : (some (0,y102,(([(([a1] : List Int)),(([a2] : List Int))] : List (List Int))))) = some (r1,r2,r3):=by first|(rw [hy102];with_reducible exact H)|(have H2_:=(Option.bind_some _ _).symm.trans H;rw [hy102];with_reducible exact H2_)|(have H2_:=(Option.bind_some _ _).symm.trans H;with_reducible exact H2_)|with_reducible exact H|(rw [hy102];exact H)|exact H
 have Ny102:=Aside0.mk hy102
 clear hy102
 obtain ⟨y105,hy105⟩ : ∃ y_ : List Int,y_ = (([a1] : List Int)):=⟨_,rfl⟩
 replace H : (some (0,y102,(([y105,(([a2] : List Int))] : List (List Int))))) = some (r1,r2,r3):=by first|(rw [hy105];with_reducible exact H)|(have H2_:=(Option.bind_some _ _).symm.trans H;rw [hy105];with_reducible exact H2_)|(have H2_:=(Option.bind_some _ _).symm.trans H;with_reducible exact H2_)|with_reducible exact H|(rw [hy105];exact H)|exact H
 have Ny105:=Aside0.mk hy105
 clear hy105
 obtain ⟨y108,hy108⟩ : ∃ y_ : List Int,y_ = (([a2] : List Int)):=⟨_,rfl⟩
 replace H : (some (0,y102,(([y105,y108] : List (List Int))))) = some (r1,r2,r3):=by first|(rw [hy108];with_reducible exact H)|(have H2_:=(Option.bind_some _ _).symm.trans H;rw [hy108];with_reducible exact H2_)|(have H2_:=(Option.bind_some _ _).symm.trans H;with_reducible exact H2_)|with_reducible exact H|(rw [hy108];exact H)|exact H
 have Ny108:=Aside0.mk hy108
 clear hy108
 obtain ⟨y111,hy111⟩ : ∃ y_ : List (List Int),y_ = (([y105,y108] : List (List Int))):=⟨_,rfl⟩
 replace H : (some (0,y102,y111)) = some (r1,r2,r3):=by first|(rw [hy111];with_reducible exact H)|(have H2_:=(Option.bind_some _ _).symm.trans H;rw [hy111];with_reducible exact H2_)|(have H2_:=(Option.bind_some _ _).symm.trans H;with_reducible exact H2_)|with_reducible exact H|(rw [hy111];exact H)|exact H
 have Ny111:=Aside0.mk hy111
 clear hy111
 simp only [Option.some.injEq,Prod.mk.injEq] at H
 obtain ⟨rfl,rfl,rfl⟩:=H
 go_enter Tryd.func60,Tryd.ntmps60
 go_wp2_with (first|((with_reducible refine gate_dst (N:=6) rfl ?_);refine box_event ?hg (N:=6) ?hd (cs:=#[.int .i64 0,.slice none 0 0,.slice none 0 0]) (t:=30) ?hr ?_;(case hd => rfl);(case hg => rfl);(case hr => first|(go_simp;done)|(go_simp;rfl));intro gb101 hg w4 hbox hb;have n0_:=Aside0.mk (below_step (by repeat (first|(with_reducible first|exact HB.out|apply below_alloc|apply pw_below_drewN|apply below_drew1)|exact HB.out)) hb);have n1_:=Aside0.mk (hbox);have n2_:=Aside0.mk ((by rw [hg];exact (below_size (by repeat (first|(with_reducible first|exact HB.out|apply below_alloc|apply pw_below_drewN|apply below_drew1)|exact HB.out))) : w.heap.size ≤ gb101));have n3_:=Aside0.mk ((by rw [hg];exact (below_size (by repeat (first|(with_reducible first|exact HB.out|apply below_alloc|apply pw_below_drewN|apply below_drew1)|exact HB.out))) : w.heap.size ≤ gb101));clear HB;have HB:=n0_;have BK101:=n1_;have GW101:=n2_;have GE101:=n3_;clear n0_ n1_ n2_ n3_;clear hb hbox hg)|((with_reducible refine gate_dst (N:=8) rfl ?_);refine Kd.R_lit (Kd.int .u8) _ 5 ?hg (N:=8) ?hd (xs:=([a0] : List Int)) (inner:=[.int .u8 a0]) (ok:=fun _ => True) (okp:=fun _ => True) ?hr ?hp (fun _ hk => hk) trivial (Below.refl _ _) (Nat.le_refl _) (by simp) ?_;(case hd => rfl);(case hg => rfl);(case hr => first|(go_simp;done)|(go_simp;rfl));(case hp => exact (Reps.one (show Kd.M (Kd.int .u8) _ _ _ a0 [.int .u8 a0] from rfl) (Reps.none _ _)));intro v103 w5 ho6 hb hg_ hnew_;clear hg_ hnew_;(first|rw [← Ny102.out] at ho6|(simp only [Int.reduceToNat] at ho6;rw [← Ny102.out] at ho6));have n0_:=Aside0.mk (Kd.R_lower (Kd.R_newM (M:=fun k_ => (w.heap.size ≤ k_)) ho6 (below_size (by repeat (first|(with_reducible first|exact HB.out|apply below_alloc|apply pw_below_drewN|apply below_drew1|refine below_set ?_ GE101.out)|exact HB.out))) (fun k_ h_ => h_)) (below_size (by repeat (first|(with_reducible first|exact HB.out|apply below_alloc|apply pw_below_drewN|apply below_drew1|refine below_set ?_ GE101.out)|exact HB.out))));have n1_:=Aside0.mk (blk_below (g:=gb101) (o:=.cells #[.int .i64 0,.slice none 0 0,.slice none 0 0] 30 (0,0)) (by (with_reducible repeat (first|refine blk_drewN ?_ _|refine blk_drew ?_|refine blk_alloc ?_ _));exact BK101.out) hb);have n2_:=Aside0.mk (below_step (by repeat (first|(with_reducible first|exact HB.out|apply below_alloc|apply pw_below_drewN|apply below_drew1|refine below_set ?_ GE101.out)|exact HB.out)) hb);clear BK101;clear HB;have HO104:=n0_;have BK101:=n1_;have HB:=n2_;clear n0_ n1_ n2_;clear hb ho6)|((with_reducible refine gate_dst (N:=10) rfl ?_);refine Kd.R_lit (Kd.int .u8) _ 5 ?hg (N:=10) ?hd (xs:=([a1] : List Int)) (inner:=[.int .u8 a1]) (ok:=fun _ => True) (okp:=fun _ => True) ?hr ?hp (fun _ hk => hk) trivial (Below.refl _ _) (Nat.le_refl _) (by simp) ?_;(case hd => rfl);(case hg => rfl);(case hr => first|(go_simp;done)|(go_simp;rfl));(case hp => exact (Reps.one (show Kd.M (Kd.int .u8) _ _ _ a1 [.int .u8 a1] from rfl) (Reps.none _ _)));intro v106 w7 ho8 hb hg_ hnew_;clear hg_ hnew_;(first|rw [← Ny105.out] at ho8|(simp only [Int.reduceToNat] at ho8;rw [← Ny105.out] at ho8));have n0_:=Aside0.mk (Kd.R_elder' (by (with_reducible repeat (first|apply Kd.R_alloc|apply Kd.R_drewN|apply Kd.R_drew));exact HO104.out) (Kd.R_base ho8) hb);have n1_:=Aside0.mk (Kd.R_lower (Kd.R_new' (Kd.R_newM (M:=fun k_ => (w.heap.size ≤ k_)) ho8 (below_size (by repeat (first|(with_reducible first|exact HB.out|apply below_alloc|apply pw_below_drewN|apply below_drew1|refine below_set ?_ GE101.out)|exact HB.out))) (fun k_ h_ => h_)) (Kd.R_lt (by (with_reducible repeat (first|apply Kd.R_alloc|apply Kd.R_drewN|apply Kd.R_drew));exact HO104.out))) (below_size (by repeat (first|(with_reducible first|exact HB.out|apply below_alloc|apply pw_below_drewN|apply below_drew1|refine below_set ?_ GE101.out)|exact HB.out))));have n2_:=Aside0.mk (blk_below (g:=gb101) (o:=.cells #[.int .i64 0,.slice none 0 0,.slice none 0 0] 30 (0,0)) (by (with_reducible repeat (first|refine blk_drewN ?_ _|refine blk_drew ?_|refine blk_alloc ?_ _));exact BK101.out) hb);have n3_:=Aside0.mk (below_step (by repeat (first|(with_reducible first|exact HB.out|apply below_alloc|apply pw_below_drewN|apply below_drew1|refine below_set ?_ GE101.out)|exact HB.out)) hb);clear HO104;clear BK101;clear HB;have HO104:=n0_;have HO107:=n1_;have BK101:=n2_;have HB:=n3_;clear n0_ n1_ n2_ n3_;clear hb ho8)|((with_reducible refine gate_dst (N:=12) rfl ?_);refine Kd.R_lit (Kd.int .u8) _ 5 ?hg (N:=12) ?hd (xs:=([a2] : List Int)) (inner:=[.int .u8 a2]) (ok:=fun _ => True) (okp:=fun _ => True) ?hr ?hp (fun _ hk => hk) trivial (Below.refl _ _) (Nat.le_refl _) (by simp) ?_;(case hd => rfl);(case hg => rfl);(case hr => first|(go_simp;done)|(go_simp;rfl));(case hp => exact (Reps.one (show Kd.M (Kd.int .u8) _ _ _ a2 [.int .u8 a2] from rfl) (Reps.none _ _)));intro v109 w9 ho10 hb hg_ hnew_;clear hg_ hnew_;(first|rw [← Ny108.out] at ho10|(simp only [Int.reduceToNat] at ho10;rw [← Ny108.out] at ho10));have n0_:=Aside0.mk (Kd.R_elder' (by (with_reducible repeat (first|apply Kd.R_alloc|apply Kd.R_drewN|apply Kd.R_drew));exact HO104.out) (Kd.R_base ho10) hb);have n1_:=Aside0.mk (Kd.R_elder' (by (with_reducible repeat (first|apply Kd.R_alloc|apply Kd.R_drewN|apply Kd.R_drew));exact HO107.out) (Kd.R_base ho10) hb);have n2_:=Aside0.mk (Kd.R_lower (Kd.R_new' (Kd.R_new' (Kd.R_newM (M:=fun k_ => (w.heap.size ≤ k_)) ho10 (below_size (by repeat (first|(with_reducible first|exact HB.out|apply below_alloc|apply pw_below_drewN|apply below_drew1|refine below_set ?_ GE101.out)|exact HB.out))) (fun k_ h_ => h_)) (Kd.R_lt (by (with_reducible repeat (first|apply Kd.R_alloc|apply Kd.R_drewN|apply Kd.R_drew));exact HO104.out))) (Kd.R_lt (by (with_reducible repeat (first|apply Kd.R_alloc|apply Kd.R_drewN|apply Kd.R_drew));exact HO107.out))) (below_size (by repeat (first|(with_reducible first|exact HB.out|apply below_alloc|apply pw_below_drewN|apply below_drew1|refine below_set ?_ GE101.out)|exact HB.out))));have n3_:=Aside0.mk (blk_below (g:=gb101) (o:=.cells #[.int .i64 0,.slice none 0 0,.slice none 0 0] 30 (0,0)) (by (with_reducible repeat (first|refine blk_drewN ?_ _|refine blk_drew ?_|refine blk_alloc ?_ _));exact BK101.out) hb);have n4_:=Aside0.mk (below_step (by repeat (first|(with_reducible first|exact HB.out|apply below_alloc|apply pw_below_drewN|apply below_drew1|refine below_set ?_ GE101.out)|exact HB.out)) hb);clear HO104;clear HO107;clear BK101;clear HB;have HO104:=n0_;have HO107:=n1_;have HO110:=n2_;have BK101:=n3_;have HB:=n4_;clear n0_ n1_ n2_ n3_ n4_;clear hb ho10;obtain ⟨Ao11,co11,eo11⟩:=Kd.R_slice HO107.out;subst eo11;obtain ⟨Ao12,co12,eo12⟩:=Kd.R_slice HO110.out;subst eo12)|((with_reducible refine gate_dst (N:=13) rfl ?_);refine Kd.N_lit (Kd.slice 5 (Kd.int .u8)) _ 27 ?hg (N':=13) ?hd (xs:=([y105,y108] : List (List Int))) (inner:=[.slice Ao11 y105.length co11,.slice Ao12 y108.length co12]) (ok:=(fun k_ => (w.heap.size ≤ k_)∧some k_ ≠ (v103 : Value).ownBlock∧k_ ≠ gb101)) (okp:=(fun k_ => (w.heap.size ≤ k_)∧some k_ ≠ (v103 : Value).ownBlock∧k_ ≠ gb101)) ?hr ?hp (fun _ hk => hk) ((show ∀ k_,w9.heap.size ≤ k_→(fun k_ => (w.heap.size ≤ k_)∧some k_ ≠ (v103 : Value).ownBlock∧k_ ≠ gb101) k_ from fun k_ hk => ⟨(Nat.le_trans (below_size (by repeat (first|(with_reducible first|exact HB.out|apply below_alloc|apply pw_below_drewN|apply below_drew1|refine below_set ?_ GE101.out)|exact HB.out))) hk),Kd.fresh' (Kd.R_lt (by (with_reducible repeat (first|apply Kd.R_alloc|apply Kd.R_drewN|apply Kd.R_drew));exact HO104.out)) k_ hk,Kd.freshB (g:=gb101) (o:=.cells #[.int .i64 0,.slice none 0 0,.slice none 0 0] 30 (0,0)) (by (with_reducible repeat (first|refine blk_drewN ?_ _|refine blk_drew ?_|refine blk_alloc ?_ _));exact BK101.out) k_ hk⟩) _ (Nat.le_refl _)) (Below.refl _ _) (Nat.le_refl _) (by simp) ?_;(case hd => rfl);(case hg => rfl);(case hr => first|(go_simp;done)|(go_simp;rfl));(case hp => exact (Reps.one (show Kd.FK (Kd.slice 5 (Kd.int .u8)) _ _ y105 [.slice Ao11 y105.length co11] from (Kd.FK_slice_mk (Kd.R_reads' (Kd.R_mono (ok':=(fun k_ => (w.heap.size ≤ k_)∧some k_ ≠ (v103 : Value).ownBlock∧k_ ≠ gb101)) (Kd.R_types (HO107.out) BK101.out (by decide)) (fun k_ hk => ⟨hk.1.1.1.1,⟨hk.1.1.2,hk.2⟩⟩))).2.1 (Kd.R_F (Kd.R_mono (ok':=(fun k_ => (w.heap.size ≤ k_)∧some k_ ≠ (v103 : Value).ownBlock∧k_ ≠ gb101)) (Kd.R_types (HO107.out) BK101.out (by decide)) (fun k_ hk => ⟨hk.1.1.1.1,⟨hk.1.1.2,hk.2⟩⟩))))) (Reps.one (show Kd.FK (Kd.slice 5 (Kd.int .u8)) _ _ y108 [.slice Ao12 y108.length co12] from (Kd.FK_slice_mk (Kd.R_reads' (Kd.R_mono (ok':=(fun k_ => (w.heap.size ≤ k_)∧some k_ ≠ (v103 : Value).ownBlock∧k_ ≠ gb101)) (Kd.R_types (HO110.out) BK101.out (by decide)) (fun k_ hk => ⟨hk.1.1.1.1,⟨hk.1.1.2,hk.2⟩⟩))).2.1 (Kd.R_F (Kd.R_mono (ok':=(fun k_ => (w.heap.size ≤ k_)∧some k_ ≠ (v103 : Value).ownBlock∧k_ ≠ gb101)) (Kd.R_types (HO110.out) BK101.out (by decide)) (fun k_ hk => ⟨hk.1.1.1.1,⟨hk.1.1.2,hk.2⟩⟩))))) (Reps.none _ _))));intro v112 w13 ho14 hb hg_ hnew_;clear hg_ hnew_;(first|rw [← Ny111.out] at ho14|(simp only [Int.reduceToNat] at ho14;rw [← Ny111.out] at ho14));have n0_:=Aside0.mk (Kd.R_below (by (with_reducible repeat (first|apply Kd.R_alloc|apply Kd.R_drewN|apply Kd.R_drew));exact HO104.out) hb);have n1_:=Aside0.mk (Kd.N_lower ho14 (below_size (by repeat (first|(with_reducible first|exact HB.out|apply below_alloc|apply pw_below_drewN|apply below_drew1|refine below_set ?_ GE101.out)|exact HB.out))));have n2_:=Aside0.mk (blk_below (g:=gb101) (o:=.cells #[.int .i64 0,.slice none 0 0,.slice none 0 0] 30 (0,0)) (by (with_reducible repeat (first|refine blk_drewN ?_ _|refine blk_drew ?_|refine blk_alloc ?_ _));exact BK101.out) hb);have n3_:=Aside0.mk (below_step (by repeat (first|(with_reducible first|exact HB.out|apply below_alloc|apply pw_below_drewN|apply below_drew1|refine below_set ?_ GE101.out)|exact HB.out)) hb);clear HO104;clear BK101;clear HB;clear HO107;clear HO110;have HO104:=n0_;have HO113:=n1_;have BK101:=n2_;have HB:=n3_;clear n0_ n1_ n2_ n3_;clear hb ho14;obtain ⟨Ao15,co15,eo15⟩:=Kd.N_slice HO113.out;subst eo15;obtain ⟨Ao16,co16,eo16⟩:=Kd.R_slice HO104.out;subst eo16;have hcz17_0 : w13.cell? ⟨gb101,0,none⟩ = some (.int .i64 0):=(blk_cell BK101.out 0).trans rfl;have hcz17_1 : w13.cell? ⟨gb101,1,none⟩ = some (.slice none 0 0):=(blk_cell BK101.out 1).trans rfl;have hcz17_2 : w13.cell? ⟨gb101,2,none⟩ = some (.slice none 0 0):=(blk_cell BK101.out 2).trans rfl;have hfz17_0:=blk_frozen BK101.out 0;have hfz17_1:=blk_frozen BK101.out 1;have hfz17_2:=blk_frozen BK101.out 2))
 refine bodyPost_ret (results_cell_row rfl _ _ gb101 30 #[.int .i64 0,.slice Ao16 y102.length co16,.slice Ao15 y111.length co15] (0,0) _ rfl (by (with_reducible repeat (first|refine blk_drewN ?_ _|refine blk_drew ?_|refine blk_alloc ?_ _));refine blk_put (cs:=#[.int .i64 0,.slice Ao16 y102.length co16,.slice none 0 0]) ?_ 2 _ rfl;(with_reducible repeat (first|refine blk_drewN ?_ _|refine blk_drew ?_|refine blk_alloc ?_ _));refine blk_put (cs:=#[.int .i64 0,.slice none 0 0,.slice none 0 0]) ?_ 1 _ rfl;(with_reducible repeat (first|refine blk_drewN ?_ _|refine blk_drew ?_|refine blk_alloc ?_ _));refine blk_put (cs:=#[.int .i64 0,.slice none 0 0,.slice none 0 0]) ?_ 0 _ rfl;(with_reducible repeat (first|refine blk_drewN ?_ _|refine blk_drew ?_|refine blk_alloc ?_ _));exact BK101.out) Tryd.underlying30 rfl (by kernel_rfl)) rfl ?_
 exact ⟨_,_,by first|rfl|(simp [errW_none,errW_some] <;> rfl)|(simp [*,errW_none,errW_some] <;> rfl),by (with_reducible repeat (first|apply Kd.R_alloc|apply Kd.R_drewN|apply Kd.R_drew));exact Kd.R_mono (Kd.R_far (p:=⟨gb101,2,none⟩) (Kd.R_far (p:=⟨gb101,1,none⟩) (Kd.R_far (p:=⟨gb101,0,none⟩) (Kd.R_types HO104.out BK101.out (by decide)) (fun _ hk => hk.2) (.int .i64 0)) (fun _ hk => hk.2) (.slice Ao16 y102.length co16)) (fun _ hk => hk.2) (.slice Ao15 y111.length co15)) (fun _ hk => hk.1.1.1.1),by (with_reducible repeat (first|apply Kd.N_alloc|apply Kd.N_drewN|apply Kd.N_drew));exact Kd.N_mono (Kd.N_far (p:=⟨gb101,2,none⟩) (Kd.N_far (p:=⟨gb101,1,none⟩) (Kd.N_far (p:=⟨gb101,0,none⟩) (Kd.N_mono HO113.out (fun k_ hk => (⟨hk,hk.2.2⟩ : _∧k_ ≠ gb101))) (fun _ hk => hk.2) (.int .i64 0)) (fun _ hk => hk.2) (.slice Ao16 y102.length co16)) (fun _ hk => hk.2) (.slice Ao15 y111.length co15)) (fun _ hk => ⟨hk.1.1,hk.1.2.1⟩),by repeat (first|(with_reducible first|exact HB.out|apply below_alloc|apply pw_below_drewN|apply below_drew1|refine below_set ?_ GE101.out)|exact HB.out)⟩

end Go.Proofs.YthpnooookkpkaaaDoor.F
/- A function of the program as a plain Lean function, and that the machine's call comes to it: written by a program of this session over the kit's print. -/
namespace Go.Proofs.YthpnooookkpkaaaDoor.F
open Go.RowKit Go.Proofs.YthpnooookkpkaaaDoorW.PrintWords Go.Proofs.YthpnooookkpkaaaDoorW.PrintLast Go.Proofs.YthpnooookkpkaaaDoorW.PrintMore
attribute [local go_sem] max2_int min2_int max_two min_two max_three min_three max_four min_four   -- for this text's walks alone
set_option linter.unusedVariables false
set_option linter.unusedSimpArgs false

/-! ### inquestref00_Tables: function 28 -/
def inquestref00_Tables.l0 : Nat→List (List Int)→List (List Int)→Option (Bool)
 | 0,_,_ => none
 | k + 1,x0,x1 => if (x0.length : Int) > 0 then (if 0 < (x0.length : Int) then (if 0 < (x1.length : Int) then ((inquestref00_Bytes.f (rd_L4 x0 0) (rd_L4 x1 0)).bind fun t103 => (if t103 = true then (if 1 ≤ (x0.length : Int) then (if 1 ≤ (x1.length : Int) then (inquestref00_Tables.l0 k (x0.drop 1) (x1.drop 1)) else (none)) else (none)) else (some false))) else (none)) else (none)) else (some true)
def inquestref00_Tables.f (k : Nat) (l0 : List (List Int)) (l1 : List (List Int)) : Option (Bool):=if (l0.length : Int) = (l1.length : Int) then (inquestref00_Tables.l0 k l0 l1) else (some false)
set_option maxHeartbeats 8000000 in
set_option maxRecDepth 100000 in
theorem inquestref00_Tables.calls (k : Nat) (P0_ : Nat→Prop) (A0 : Option Addr) (c0 : Nat) (l0 : List (List Int)) (P1_ : Nat→Prop) (A1 : Option Addr) (c1 : Nat) (l1 : List (List Int)) (r : Bool) (w : World) (hs0 : Kd.V (Kd.slice 5 (Kd.int .u8)) 27 w w.heap.size (fun k_ => P0_ k_) (.slice A0 l0.length c0) l0) (hs1 : Kd.V (Kd.slice 5 (Kd.int .u8)) 27 w w.heap.size (fun k_ => P1_ k_) (.slice A1 l1.length c1) l1) (h : inquestref00_Tables.f k l0 l1 = some r) :
  Calls Tryd.prog 28 #[.slice A0 l0.length c0,.slice A1 l1.length c1] w fun e w' => e = .returned (.bool r)∧Below w.heap.size w w':=by
 have HO0:=Aside0.mk (show Kd.V (Kd.slice 5 (Kd.int .u8)) 27 w w.heap.size (fun k_ => ((P0_ k_ ∨ P1_ k_) ∨ w.heap.size ≤ k_)) (.slice A0 l0.length c0) l0 from Kd.V_mono hs0 (fun k_ hk => .inl (.inl hk)))
 have HO1:=Aside0.mk (show Kd.V (Kd.slice 5 (Kd.int .u8)) 27 w w.heap.size (fun k_ => ((P0_ k_ ∨ P1_ k_) ∨ w.heap.size ≤ k_)) (.slice A1 l1.length c1) l1 from Kd.V_mono hs1 (fun k_ hk => .inl (.inr hk)))
 have HB:=Aside0.mk (Below.refl w.heap.size w)
 have H : (if (l0.length : Int) = (l1.length : Int) then (inquestref00_Tables.l0 k l0 l1) else (some false)) = some r:=h
 clear h
 by_cases c3 : (l0.length : Int) = (l1.length : Int)
 ·
  rw [if_pos c3] at H
  have c3b0 : ((l0.length : Int) == (l1.length : Int)) = true:=beq_iff_eq.mpr c3
  have c3b1 : ((l0.length : Int) != (l1.length : Int)) = false:=bne_eq_false_iff_eq.mpr c3
  have c3b2 : (l0.length == l1.length) = true:=by first|simpa using c3|(simp at c3 ⊢;omega)
  clear c3
  have H':=Aside0.mk H
  clear H
  go_enter Tryd.func28,Tryd.ntmps28
  go_wp2
  repeat (go_quiet (fail);try go_wp2)
  go_loopg [0,1] k (fun kq v0 v1 w' => ∃ (x0_1 : List (List Int)) (x1_1 : List (List Int)),Aside0 (inquestref00_Tables.l0 kq x0_1 x1_1 = some r)∧Aside0 (kq ≤ k)∧Aside0 (Kd.V (Kd.slice 5 (Kd.int .u8)) 27 w' w.heap.size (fun k_ => ((P0_ k_ ∨ P1_ k_) ∨ w.heap.size ≤ k_)) v0 x0_1)∧Aside0 (Kd.V (Kd.slice 5 (Kd.int .u8)) 27 w' w.heap.size (fun k_ => ((P0_ k_ ∨ P1_ k_) ∨ w.heap.size ≤ k_)) v1 x1_1)∧Aside0 (Below w.heap.size w w'))
  case atStart => exact ⟨(l0),(l1),H',⟨Nat.le_refl _⟩,⟨by (with_reducible repeat (first|apply Kd.V_alloc|apply Kd.V_drewN|apply Kd.V_drew));exact HO0.out⟩,⟨by (with_reducible repeat (first|apply Kd.V_alloc|apply Kd.V_drewN|apply Kd.V_drew));exact HO1.out⟩,⟨by repeat (first|(with_reducible first|exact HB.out|apply below_alloc|apply pw_below_drewN|apply below_drew1)|exact HB.out)⟩⟩
  case round =>
   clear H'
   try clear c1
   try clear c2
   try clear p2
   try clear c3
   try clear c3b0
   try clear c3b1
   try clear c3b2
   obtain ⟨x0_1,x1_1,HA,HK1,HO_0,HO_1,HB⟩:=hrel
   cases gk with
   | zero => exact absurd HA.out (by simp [inquestref00_Tables.l0])
   | succ k1 =>
    have H:=HA.out
    clear HA
    simp only [inquestref00_Tables.l0] at H
    by_cases c4 : (x0_1.length : Int) > 0
    ·
     rw [if_pos c4] at H
     have c4b0 : decide (0 < (x0_1.length : Int)) = true:=decide_eq_true c4
     have c4b1 : decide (0 < x0_1.length) = true:=decide_eq_true (by omega)
     clear c4
     by_cases c5 : 0 < (x0_1.length : Int)
     ·
      rw [if_pos c5] at H
      have c5b0 : decide (0 < (x0_1.length : Int)) = true:=decide_eq_true c5
      have c5b1 : decide (0 < x0_1.length) = true:=decide_eq_true (by omega)
      clear c5
      by_cases c6 : 0 < (x1_1.length : Int)
      ·
       rw [if_pos c6] at H
       have c6b0 : decide (0 < (x1_1.length : Int)) = true:=decide_eq_true c6
       have c6b1 : decide (0 < x1_1.length) = true:=decide_eq_true (by omega)
       clear c6
       replace H:=Option.bind_eq_some_iff.mp H
       obtain ⟨t103,A70,H⟩:=H
       replace H : (if t103 = true then (if 1 ≤ (x0_1.length : Int) then (if 1 ≤ (x1_1.length : Int) then (inquestref00_Tables.l0 k1 (x0_1.drop 1) (x1_1.drop 1)) else (none)) else (none)) else (some false)) = some r:=H
       have A7:=Aside0.mk A70
       clear A70
       by_cases c8 : t103 = true
       ·
        subst c8
        have H1 : (if 1 ≤ (x0_1.length : Int) then (if 1 ≤ (x1_1.length : Int) then (inquestref00_Tables.l0 k1 (x0_1.drop 1) (x1_1.drop 1)) else (none)) else (none)) = some r:=by rw [if_pos rfl] at H;exact H
        clear H
        have H:=H1
        clear H1
        by_cases c9 : 1 ≤ (x0_1.length : Int)
        ·
         rw [if_pos c9] at H
         have c9b0:=eq_true c9
         have c9b1 : decide (1 ≤ (x0_1.length : Int)) = true:=decide_eq_true c9
         clear c9
         obtain ⟨y104,hy104⟩ : ∃ y_ : List (List Int),y_ = (x0_1.drop 1):=⟨_,rfl⟩
         replace H : (if 1 ≤ (x1_1.length : Int) then (inquestref00_Tables.l0 k1 y104 (x1_1.drop 1)) else (none)) = some r:=by first|(rw [hy104];with_reducible exact H)|(have H2_:=(Option.bind_some _ _).symm.trans H;rw [hy104];with_reducible exact H2_)|(have H2_:=(Option.bind_some _ _).symm.trans H;with_reducible exact H2_)|with_reducible exact H|(rw [hy104];exact H)|exact H
         have Ny104:=Aside0.mk hy104
         clear hy104
         by_cases c10 : 1 ≤ (x1_1.length : Int)
         ·
          rw [if_pos c10] at H
          have c10b0:=eq_true c10
          have c10b1 : decide (1 ≤ (x1_1.length : Int)) = true:=decide_eq_true c10
          clear c10
          obtain ⟨y109,hy109⟩ : ∃ y_ : List (List Int),y_ = (x1_1.drop 1):=⟨_,rfl⟩
          replace H : (inquestref00_Tables.l0 k1 y104 y109) = some r:=by first|(rw [hy109];with_reducible exact H)|(have H2_:=(Option.bind_some _ _).symm.trans H;rw [hy109];with_reducible exact H2_)|(have H2_:=(Option.bind_some _ _).symm.trans H;with_reducible exact H2_)|with_reducible exact H|(rw [hy109];exact H)|exact H
          have Ny109:=Aside0.mk hy109
          clear hy109
          have H':=Aside0.mk H
          clear H
          obtain ⟨Ao11,co11,eo11⟩:=Kd.V_slice HO_0.out
          subst eo11
          have p101 : 0 ≤ (0 : Int):=(by omega)
          have q101 : 0 < (x0_1.length : Int):=of_decide_eq_true (by first|(with_reducible assumption)|assumption)
          obtain ⟨ad101,A101_0,c101_0,e101,hx101_0,hl101_0,hi101_0⟩:=at_L4 (Kd.V_reads' HO_0.out).2.2 0 p101 q101
          cases e101
          obtain ⟨ce101,hce101,hMe101,hcc101⟩:=Kd.V_get HO_0.out [] 0 p101 (by first|exact q101|exact of_decide_eq_true (by first|(with_reducible assumption)|assumption)|(have e_:=(Kd.V_reads' HO_0.out).1;omega))
          obtain ⟨ua101_0,uc101_0,rfl,ul101_0,ge101_0⟩:=Kd.FK_slice_open hMe101
          have hv101_0:=hcc101 0 _ rfl
          rw [Nat.add_zero,show ((Kd.slice 5 (Kd.int .u8))).sz = 1 from rfl,Nat.mul_one] at hv101_0
          replace hv101_0:=Option.some.inj (hv101_0.symm.trans hx101_0)
          injection hv101_0 with hva_ hvn_ hvc_
          rw [hva_] at ge101_0
          rw [hvc_] at ul101_0
          have HL101_0:=Aside0.mk (show Kd.V (Kd.int .u8) 5 _ w.heap.size _ _ (rd_L4 x0_1 0) from Kd.V_mk ul101_0 ge101_0)
          clear hva_ hvn_ hvc_ ge101_0 ul101_0
          clear hcc101 hce101
          have qi101 : (0 < x0_1.length) = True:=eq_true (by omega)
          (try rw [show ((0 : Int)).toNat = 0 from rfl] at hx101_0)
          (try rw [Addr.add_zero'] at hx101_0)
          have HR101_0:=Aside0.mk hi101_0
          have HC101_0:=Aside0.mk hl101_0
          clear hi101_0 hl101_0
          replace p101:=eq_true p101
          replace q101:=eq_true q101
          obtain ⟨Ao12,co12,eo12⟩:=Kd.V_slice HO_1.out
          subst eo12
          have p102 : 0 ≤ (0 : Int):=(by omega)
          have q102 : 0 < (x1_1.length : Int):=of_decide_eq_true (by first|(with_reducible assumption)|assumption)
          obtain ⟨ad102,A102_0,c102_0,e102,hx102_0,hl102_0,hi102_0⟩:=at_L4 (Kd.V_reads' HO_1.out).2.2 0 p102 q102
          cases e102
          obtain ⟨ce102,hce102,hMe102,hcc102⟩:=Kd.V_get HO_1.out [] 0 p102 (by first|exact q102|exact of_decide_eq_true (by first|(with_reducible assumption)|assumption)|(have e_:=(Kd.V_reads' HO_1.out).1;omega))
          obtain ⟨ua102_0,uc102_0,rfl,ul102_0,ge102_0⟩:=Kd.FK_slice_open hMe102
          have hv102_0:=hcc102 0 _ rfl
          rw [Nat.add_zero,show ((Kd.slice 5 (Kd.int .u8))).sz = 1 from rfl,Nat.mul_one] at hv102_0
          replace hv102_0:=Option.some.inj (hv102_0.symm.trans hx102_0)
          injection hv102_0 with hva_ hvn_ hvc_
          rw [hva_] at ge102_0
          rw [hvc_] at ul102_0
          have HL102_0:=Aside0.mk (show Kd.V (Kd.int .u8) 5 _ w.heap.size _ _ (rd_L4 x1_1 0) from Kd.V_mk ul102_0 ge102_0)
          clear hva_ hvn_ hvc_ ge102_0 ul102_0
          clear hcc102 hce102
          have qi102 : (0 < x1_1.length) = True:=eq_true (by omega)
          (try rw [show ((0 : Int)).toNat = 0 from rfl] at hx102_0)
          (try rw [Addr.add_zero'] at hx102_0)
          have HR102_0:=Aside0.mk hi102_0
          have HC102_0:=Aside0.mk hl102_0
          clear hi102_0 hl102_0
          replace p102:=eq_true p102
          replace q102:=eq_true q102
          go_wp2_with (first|(go_at_call 24;(with_reducible refine (inquestref00_Bytes.calls _ _ (rd_L4 x0_1 0) _ _ (rd_L4 x1_1 0) true _ ?side1 ?side2 ?side3 ?side4 A7.out).mono ?_);(case side1 => repeat (first|exact (by repeat (first|(with_reducible exact HR101_0.out)|(with_reducible refine Kd.C_alloc ?_ _)|(with_reducible refine Kd.C_drewN ?_ _)|(with_reducible refine Kd.C_drew ?_)|exact HR101_0.out))|(with_reducible refine Kd.C_alloc ?_ _)|(with_reducible refine Kd.C_drewN ?_ _)|(with_reducible refine Kd.C_drew ?_)));(case side2 => exact HC101_0.out);(case side3 => repeat (first|exact (by repeat (first|(with_reducible exact HR102_0.out)|(with_reducible refine Kd.C_alloc ?_ _)|(with_reducible refine Kd.C_drewN ?_ _)|(with_reducible refine Kd.C_drew ?_)|exact HR102_0.out))|(with_reducible refine Kd.C_alloc ?_ _)|(with_reducible refine Kd.C_drewN ?_ _)|(with_reducible refine Kd.C_drew ?_)));(case side4 => exact HC102_0.out);rintro e w' ⟨rfl,⟨nd,rfl⟩⟩;(try first|exact ⟨rfl,_,World.drewN_drewN _ _ _⟩|exact ⟨rfl,_,Eq.trans (World.drewN_drewN _ _ _) (congrArg (World.drewN _) (Nat.add_assoc _ _ _))⟩);have q13 : (1 : Int) ≤ ((x0_1.length : Int) : Int):=of_decide_eq_true (by first|(with_reducible assumption)|assumption);obtain ⟨i013,hi013,_,hsz13,_⟩:=info_parts info27;have hroom13 : x0_1.length ≤ co11:=(Kd.V_reads' HO_0.out).2.1;have hC13 : Kd.F (Kd.slice 5 (Kd.int .u8)) _ _ (some ad101) x0_1.length x0_1:=(Kd.V_at (base:=w.heap.size) HO_0.out).2.2;have hcut13:=cut_from (P:=Tryd.prog) 28 27 .i64 Tryd.underlying28 hi013 1 hsz13 (some ad101) x0_1.length co11 1 (by omega) q13;have hr13:=Kd.F_cut (m:=(1 : Int).toNat) (c:=co11) hC13 (by omega) hroom13;obtain ⟨A13,hA13⟩ : ∃ A1,A1 = (if co11 = (1 : Int).toNat then (some ad101) else ((some ad101) : Option Addr).map (·.add ((1 : Int).toNat * 1))):=⟨_,rfl⟩;obtain ⟨c13,hc13⟩ : ∃ c1,c1 = co11 - (1 : Int).toNat:=⟨_,rfl⟩;have hy13 : y104.length = x0_1.length - (1 : Int).toNat:=(by rw [Ny104.out,List.length_drop] <;> omega);rw [show (x0_1).drop (1 : Int).toNat = y104 from Ny104.out.symm] at hr13;replace hr13 : Kd.F (Kd.slice 5 (Kd.int .u8)) _ _ A13 y104.length y104:=(by rw [hA13];exact hr13);rw [← hy13,← hA13,← hc13] at hcut13;have HO108:=Aside0.mk (show Kd.V (Kd.slice 5 (Kd.int .u8)) 27 _ w.heap.size _ (.slice A13 y104.length c13) y104 from Kd.V_mk (by rw [hy13,hc13];exact Nat.sub_le_sub_right hroom13 _) hr13);have HC108:=Aside0.mk (show y104.length ≤ c13 from by rw [hy13,hc13];exact Nat.sub_le_sub_right hroom13 _);clear hr13 hC13 hroom13 hi013 hsz13 hc13;have KY13:=Aside0.mk hy13;have KA13:=Aside0.mk hA13;clear hy13 hA13;replace q13:=eq_true q13;have q14 : (1 : Int) ≤ ((x1_1.length : Int) : Int):=of_decide_eq_true (by first|(with_reducible assumption)|assumption);obtain ⟨i014,hi014,_,hsz14,_⟩:=info_parts info27;have hroom14 : x1_1.length ≤ co12:=(Kd.V_reads' HO_1.out).2.1;have hC14 : Kd.F (Kd.slice 5 (Kd.int .u8)) _ _ (some ad102) x1_1.length x1_1:=(Kd.V_at (base:=w.heap.size) HO_1.out).2.2;have hcut14:=cut_from (P:=Tryd.prog) 28 27 .i64 Tryd.underlying28 hi014 1 hsz14 (some ad102) x1_1.length co12 1 (by omega) q14;have hr14:=Kd.F_cut (m:=(1 : Int).toNat) (c:=co12) hC14 (by omega) hroom14;obtain ⟨A14,hA14⟩ : ∃ A1,A1 = (if co12 = (1 : Int).toNat then (some ad102) else ((some ad102) : Option Addr).map (·.add ((1 : Int).toNat * 1))):=⟨_,rfl⟩;obtain ⟨c14,hc14⟩ : ∃ c1,c1 = co12 - (1 : Int).toNat:=⟨_,rfl⟩;have hy14 : y109.length = x1_1.length - (1 : Int).toNat:=(by rw [Ny109.out,List.length_drop] <;> omega);rw [show (x1_1).drop (1 : Int).toNat = y109 from Ny109.out.symm] at hr14;replace hr14 : Kd.F (Kd.slice 5 (Kd.int .u8)) _ _ A14 y109.length y109:=(by rw [hA14];exact hr14);rw [← hy14,← hA14,← hc14] at hcut14;have HO113:=Aside0.mk (show Kd.V (Kd.slice 5 (Kd.int .u8)) 27 _ w.heap.size _ (.slice A14 y109.length c14) y109 from Kd.V_mk (by rw [hy14,hc14];exact Nat.sub_le_sub_right hroom14 _) hr14);have HC113:=Aside0.mk (show y109.length ≤ c14 from by rw [hy14,hc14];exact Nat.sub_le_sub_right hroom14 _);clear hr14 hC14 hroom14 hi014 hsz14 hc14;have KY14:=Aside0.mk hy14;have KA14:=Aside0.mk hA14;clear hy14 hA14;replace q14:=eq_true q14))
          repeat (go_quiet (first|(go_at_call 24;(with_reducible refine (inquestref00_Bytes.calls _ _ (rd_L4 x0_1 0) _ _ (rd_L4 x1_1 0) true _ ?side1 ?side2 ?side3 ?side4 A7.out).mono ?_);(case side1 => repeat (first|exact (by repeat (first|(with_reducible exact HR101_0.out)|(with_reducible refine Kd.C_alloc ?_ _)|(with_reducible refine Kd.C_drewN ?_ _)|(with_reducible refine Kd.C_drew ?_)|exact HR101_0.out))|(with_reducible refine Kd.C_alloc ?_ _)|(with_reducible refine Kd.C_drewN ?_ _)|(with_reducible refine Kd.C_drew ?_)));(case side2 => exact HC101_0.out);(case side3 => repeat (first|exact (by repeat (first|(with_reducible exact HR102_0.out)|(with_reducible refine Kd.C_alloc ?_ _)|(with_reducible refine Kd.C_drewN ?_ _)|(with_reducible refine Kd.C_drew ?_)|exact HR102_0.out))|(with_reducible refine Kd.C_alloc ?_ _)|(with_reducible refine Kd.C_drewN ?_ _)|(with_reducible refine Kd.C_drew ?_)));(case side4 => exact HC102_0.out);rintro e w' ⟨rfl,⟨nd,rfl⟩⟩;(try first|exact ⟨rfl,_,World.drewN_drewN _ _ _⟩|exact ⟨rfl,_,Eq.trans (World.drewN_drewN _ _ _) (congrArg (World.drewN _) (Nat.add_assoc _ _ _))⟩);have q13 : (1 : Int) ≤ ((x0_1.length : Int) : Int):=of_decide_eq_true (by first|(with_reducible assumption)|assumption);obtain ⟨i013,hi013,_,hsz13,_⟩:=info_parts info27;have hroom13 : x0_1.length ≤ co11:=(Kd.V_reads' HO_0.out).2.1;have hC13 : Kd.F (Kd.slice 5 (Kd.int .u8)) _ _ (some ad101) x0_1.length x0_1:=(Kd.V_at (base:=w.heap.size) HO_0.out).2.2;have hcut13:=cut_from (P:=Tryd.prog) 28 27 .i64 Tryd.underlying28 hi013 1 hsz13 (some ad101) x0_1.length co11 1 (by omega) q13;have hr13:=Kd.F_cut (m:=(1 : Int).toNat) (c:=co11) hC13 (by omega) hroom13;obtain ⟨A13,hA13⟩ : ∃ A1,A1 = (if co11 = (1 : Int).toNat then (some ad101) else ((some ad101) : Option Addr).map (·.add ((1 : Int).toNat * 1))):=⟨_,rfl⟩;obtain ⟨c13,hc13⟩ : ∃ c1,c1 = co11 - (1 : Int).toNat:=⟨_,rfl⟩;have hy13 : y104.length = x0_1.length - (1 : Int).toNat:=(by rw [Ny104.out,List.length_drop] <;> omega);rw [show (x0_1).drop (1 : Int).toNat = y104 from Ny104.out.symm] at hr13;replace hr13 : Kd.F (Kd.slice 5 (Kd.int .u8)) _ _ A13 y104.length y104:=(by rw [hA13];exact hr13);rw [← hy13,← hA13,← hc13] at hcut13;have HO108:=Aside0.mk (show Kd.V (Kd.slice 5 (Kd.int .u8)) 27 _ w.heap.size _ (.slice A13 y104.length c13) y104 from Kd.V_mk (by rw [hy13,hc13];exact Nat.sub_le_sub_right hroom13 _) hr13);have HC108:=Aside0.mk (show y104.length ≤ c13 from by rw [hy13,hc13];exact Nat.sub_le_sub_right hroom13 _);clear hr13 hC13 hroom13 hi013 hsz13 hc13;have KY13:=Aside0.mk hy13;have KA13:=Aside0.mk hA13;clear hy13 hA13;replace q13:=eq_true q13;have q14 : (1 : Int) ≤ ((x1_1.length : Int) : Int):=of_decide_eq_true (by first|(with_reducible assumption)|assumption);obtain ⟨i014,hi014,_,hsz14,_⟩:=info_parts info27;have hroom14 : x1_1.length ≤ co12:=(Kd.V_reads' HO_1.out).2.1;have hC14 : Kd.F (Kd.slice 5 (Kd.int .u8)) _ _ (some ad102) x1_1.length x1_1:=(Kd.V_at (base:=w.heap.size) HO_1.out).2.2;have hcut14:=cut_from (P:=Tryd.prog) 28 27 .i64 Tryd.underlying28 hi014 1 hsz14 (some ad102) x1_1.length co12 1 (by omega) q14;have hr14:=Kd.F_cut (m:=(1 : Int).toNat) (c:=co12) hC14 (by omega) hroom14;obtain ⟨A14,hA14⟩ : ∃ A1,A1 = (if co12 = (1 : Int).toNat then (some ad102) else ((some ad102) : Option Addr).map (·.add ((1 : Int).toNat * 1))):=⟨_,rfl⟩;obtain ⟨c14,hc14⟩ : ∃ c1,c1 = co12 - (1 : Int).toNat:=⟨_,rfl⟩;have hy14 : y109.length = x1_1.length - (1 : Int).toNat:=(by rw [Ny109.out,List.length_drop] <;> omega);rw [show (x1_1).drop (1 : Int).toNat = y109 from Ny109.out.symm] at hr14;replace hr14 : Kd.F (Kd.slice 5 (Kd.int .u8)) _ _ A14 y109.length y109:=(by rw [hA14];exact hr14);rw [← hy14,← hA14,← hc14] at hcut14;have HO113:=Aside0.mk (show Kd.V (Kd.slice 5 (Kd.int .u8)) 27 _ w.heap.size _ (.slice A14 y109.length c14) y109 from Kd.V_mk (by rw [hy14,hc14];exact Nat.sub_le_sub_right hroom14 _) hr14);have HC113:=Aside0.mk (show y109.length ≤ c14 from by rw [hy14,hc14];exact Nat.sub_le_sub_right hroom14 _);clear hr14 hC14 hroom14 hi014 hsz14 hc14;have KY14:=Aside0.mk hy14;have KA14:=Aside0.mk hA14;clear hy14 hA14;replace q14:=eq_true q14));try go_wp2_with (first|(go_at_call 24;(with_reducible refine (inquestref00_Bytes.calls _ _ (rd_L4 x0_1 0) _ _ (rd_L4 x1_1 0) true _ ?side1 ?side2 ?side3 ?side4 A7.out).mono ?_);(case side1 => repeat (first|exact (by repeat (first|(with_reducible exact HR101_0.out)|(with_reducible refine Kd.C_alloc ?_ _)|(with_reducible refine Kd.C_drewN ?_ _)|(with_reducible refine Kd.C_drew ?_)|exact HR101_0.out))|(with_reducible refine Kd.C_alloc ?_ _)|(with_reducible refine Kd.C_drewN ?_ _)|(with_reducible refine Kd.C_drew ?_)));(case side2 => exact HC101_0.out);(case side3 => repeat (first|exact (by repeat (first|(with_reducible exact HR102_0.out)|(with_reducible refine Kd.C_alloc ?_ _)|(with_reducible refine Kd.C_drewN ?_ _)|(with_reducible refine Kd.C_drew ?_)|exact HR102_0.out))|(with_reducible refine Kd.C_alloc ?_ _)|(with_reducible refine Kd.C_drewN ?_ _)|(with_reducible refine Kd.C_drew ?_)));(case side4 => exact HC102_0.out);rintro e w' ⟨rfl,⟨nd,rfl⟩⟩;(try first|exact ⟨rfl,_,World.drewN_drewN _ _ _⟩|exact ⟨rfl,_,Eq.trans (World.drewN_drewN _ _ _) (congrArg (World.drewN _) (Nat.add_assoc _ _ _))⟩);have q13 : (1 : Int) ≤ ((x0_1.length : Int) : Int):=of_decide_eq_true (by first|(with_reducible assumption)|assumption);obtain ⟨i013,hi013,_,hsz13,_⟩:=info_parts info27;have hroom13 : x0_1.length ≤ co11:=(Kd.V_reads' HO_0.out).2.1;have hC13 : Kd.F (Kd.slice 5 (Kd.int .u8)) _ _ (some ad101) x0_1.length x0_1:=(Kd.V_at (base:=w.heap.size) HO_0.out).2.2;have hcut13:=cut_from (P:=Tryd.prog) 28 27 .i64 Tryd.underlying28 hi013 1 hsz13 (some ad101) x0_1.length co11 1 (by omega) q13;have hr13:=Kd.F_cut (m:=(1 : Int).toNat) (c:=co11) hC13 (by omega) hroom13;obtain ⟨A13,hA13⟩ : ∃ A1,A1 = (if co11 = (1 : Int).toNat then (some ad101) else ((some ad101) : Option Addr).map (·.add ((1 : Int).toNat * 1))):=⟨_,rfl⟩;obtain ⟨c13,hc13⟩ : ∃ c1,c1 = co11 - (1 : Int).toNat:=⟨_,rfl⟩;have hy13 : y104.length = x0_1.length - (1 : Int).toNat:=(by rw [Ny104.out,List.length_drop] <;> omega);rw [show (x0_1).drop (1 : Int).toNat = y104 from Ny104.out.symm] at hr13;replace hr13 : Kd.F (Kd.slice 5 (Kd.int .u8)) _ _ A13 y104.length y104:=(by rw [hA13];exact hr13);rw [← hy13,← hA13,← hc13] at hcut13;have HO108:=Aside0.mk (show Kd.V (Kd.slice 5 (Kd.int .u8)) 27 _ w.heap.size _ (.slice A13 y104.length c13) y104 from Kd.V_mk (by rw [hy13,hc13];exact Nat.sub_le_sub_right hroom13 _) hr13);have HC108:=Aside0.mk (show y104.length ≤ c13 from by rw [hy13,hc13];exact Nat.sub_le_sub_right hroom13 _);clear hr13 hC13 hroom13 hi013 hsz13 hc13;have KY13:=Aside0.mk hy13;have KA13:=Aside0.mk hA13;clear hy13 hA13;replace q13:=eq_true q13;have q14 : (1 : Int) ≤ ((x1_1.length : Int) : Int):=of_decide_eq_true (by first|(with_reducible assumption)|assumption);obtain ⟨i014,hi014,_,hsz14,_⟩:=info_parts info27;have hroom14 : x1_1.length ≤ co12:=(Kd.V_reads' HO_1.out).2.1;have hC14 : Kd.F (Kd.slice 5 (Kd.int .u8)) _ _ (some ad102) x1_1.length x1_1:=(Kd.V_at (base:=w.heap.size) HO_1.out).2.2;have hcut14:=cut_from (P:=Tryd.prog) 28 27 .i64 Tryd.underlying28 hi014 1 hsz14 (some ad102) x1_1.length co12 1 (by omega) q14;have hr14:=Kd.F_cut (m:=(1 : Int).toNat) (c:=co12) hC14 (by omega) hroom14;obtain ⟨A14,hA14⟩ : ∃ A1,A1 = (if co12 = (1 : Int).toNat then (some ad102) else ((some ad102) : Option Addr).map (·.add ((1 : Int).toNat * 1))):=⟨_,rfl⟩;obtain ⟨c14,hc14⟩ : ∃ c1,c1 = co12 - (1 : Int).toNat:=⟨_,rfl⟩;have hy14 : y109.length = x1_1.length - (1 : Int).toNat:=(by rw [Ny109.out,List.length_drop] <;> omega);rw [show (x1_1).drop (1 : Int).toNat = y109 from Ny109.out.symm] at hr14;replace hr14 : Kd.F (Kd.slice 5 (Kd.int .u8)) _ _ A14 y109.length y109:=(by rw [hA14];exact hr14);rw [← hy14,← hA14,← hc14] at hcut14;have HO113:=Aside0.mk (show Kd.V (Kd.slice 5 (Kd.int .u8)) 27 _ w.heap.size _ (.slice A14 y109.length c14) y109 from Kd.V_mk (by rw [hy14,hc14];exact Nat.sub_le_sub_right hroom14 _) hr14);have HC113:=Aside0.mk (show y109.length ≤ c14 from by rw [hy14,hc14];exact Nat.sub_le_sub_right hroom14 _);clear hr14 hC14 hroom14 hi014 hsz14 hc14;have KY14:=Aside0.mk hy14;have KA14:=Aside0.mk hA14;clear hy14 hA14;replace q14:=eq_true q14)))
          go_roundg k1
          case measure => have:=HK1.out;omega
          case rel => exact ⟨(y104),(y109),H',⟨by have:=HK1.out;omega⟩,⟨by (with_reducible repeat (first|apply Kd.V_alloc|apply Kd.V_drewN|apply Kd.V_drew));exact HO108.out⟩,⟨by (with_reducible repeat (first|apply Kd.V_alloc|apply Kd.V_drewN|apply Kd.V_drew));exact HO113.out⟩,⟨by repeat (first|(with_reducible first|exact HB.out|apply below_alloc|apply pw_below_drewN|apply below_drew1)|exact HB.out)⟩⟩
         ·
          rw [if_neg c10] at H
          exact absurd H (by simp)
        ·
         rw [if_neg c9] at H
         exact absurd H (by simp)
       ·
        replace c8:=Bool.eq_false_iff.mpr c8
        subst c8
        have H1 : (some false) = some r:=by rw [if_neg (show ¬ (false = true) by decide)] at H;exact H
        clear H
        have H:=H1
        clear H1
        obtain rfl:=Option.some.inj H
        obtain ⟨Ao15,co15,eo15⟩:=Kd.V_slice HO_0.out
        subst eo15
        have p101 : 0 ≤ (0 : Int):=(by omega)
        have q101 : 0 < (x0_1.length : Int):=of_decide_eq_true (by first|(with_reducible assumption)|assumption)
        obtain ⟨ad101,A101_0,c101_0,e101,hx101_0,hl101_0,hi101_0⟩:=at_L4 (Kd.V_reads' HO_0.out).2.2 0 p101 q101
        cases e101
        obtain ⟨ce101,hce101,hMe101,hcc101⟩:=Kd.V_get HO_0.out [] 0 p101 (by first|exact q101|exact of_decide_eq_true (by first|(with_reducible assumption)|assumption)|(have e_:=(Kd.V_reads' HO_0.out).1;omega))
        obtain ⟨ua101_0,uc101_0,rfl,ul101_0,ge101_0⟩:=Kd.FK_slice_open hMe101
        have hv101_0:=hcc101 0 _ rfl
        rw [Nat.add_zero,show ((Kd.slice 5 (Kd.int .u8))).sz = 1 from rfl,Nat.mul_one] at hv101_0
        replace hv101_0:=Option.some.inj (hv101_0.symm.trans hx101_0)
        injection hv101_0 with hva_ hvn_ hvc_
        rw [hva_] at ge101_0
        rw [hvc_] at ul101_0
        have HL101_0:=Aside0.mk (show Kd.V (Kd.int .u8) 5 _ w.heap.size _ _ (rd_L4 x0_1 0) from Kd.V_mk ul101_0 ge101_0)
        clear hva_ hvn_ hvc_ ge101_0 ul101_0
        clear hcc101 hce101
        have qi101 : (0 < x0_1.length) = True:=eq_true (by omega)
        (try rw [show ((0 : Int)).toNat = 0 from rfl] at hx101_0)
        (try rw [Addr.add_zero'] at hx101_0)
        have HR101_0:=Aside0.mk hi101_0
        have HC101_0:=Aside0.mk hl101_0
        clear hi101_0 hl101_0
        replace p101:=eq_true p101
        replace q101:=eq_true q101
        obtain ⟨Ao16,co16,eo16⟩:=Kd.V_slice HO_1.out
        subst eo16
        have p102 : 0 ≤ (0 : Int):=(by omega)
        have q102 : 0 < (x1_1.length : Int):=of_decide_eq_true (by first|(with_reducible assumption)|assumption)
        obtain ⟨ad102,A102_0,c102_0,e102,hx102_0,hl102_0,hi102_0⟩:=at_L4 (Kd.V_reads' HO_1.out).2.2 0 p102 q102
        cases e102
        obtain ⟨ce102,hce102,hMe102,hcc102⟩:=Kd.V_get HO_1.out [] 0 p102 (by first|exact q102|exact of_decide_eq_true (by first|(with_reducible assumption)|assumption)|(have e_:=(Kd.V_reads' HO_1.out).1;omega))
        obtain ⟨ua102_0,uc102_0,rfl,ul102_0,ge102_0⟩:=Kd.FK_slice_open hMe102
        have hv102_0:=hcc102 0 _ rfl
        rw [Nat.add_zero,show ((Kd.slice 5 (Kd.int .u8))).sz = 1 from rfl,Nat.mul_one] at hv102_0
        replace hv102_0:=Option.some.inj (hv102_0.symm.trans hx102_0)
        injection hv102_0 with hva_ hvn_ hvc_
        rw [hva_] at ge102_0
        rw [hvc_] at ul102_0
        have HL102_0:=Aside0.mk (show Kd.V (Kd.int .u8) 5 _ w.heap.size _ _ (rd_L4 x1_1 0) from Kd.V_mk ul102_0 ge102_0)
        clear hva_ hvn_ hvc_ ge102_0 ul102_0
        clear hcc102 hce102
        have qi102 : (0 < x1_1.length) = True:=eq_true (by omega)
        (try rw [show ((0 : Int)).toNat = 0 from rfl] at hx102_0)
        (try rw [Addr.add_zero'] at hx102_0)
        have HR102_0:=Aside0.mk hi102_0
        have HC102_0:=Aside0.mk hl102_0
        clear hi102_0 hl102_0
        replace p102:=eq_true p102
        replace q102:=eq_true q102
        go_wp2_with (first|(go_at_call 24;(with_reducible refine (inquestref00_Bytes.calls _ _ (rd_L4 x0_1 0) _ _ (rd_L4 x1_1 0) false _ ?side1 ?side2 ?side3 ?side4 A7.out).mono ?_);(case side1 => repeat (first|exact (by repeat (first|(with_reducible exact HR101_0.out)|(with_reducible refine Kd.C_alloc ?_ _)|(with_reducible refine Kd.C_drewN ?_ _)|(with_reducible refine Kd.C_drew ?_)|exact HR101_0.out))|(with_reducible refine Kd.C_alloc ?_ _)|(with_reducible refine Kd.C_drewN ?_ _)|(with_reducible refine Kd.C_drew ?_)));(case side2 => exact HC101_0.out);(case side3 => repeat (first|exact (by repeat (first|(with_reducible exact HR102_0.out)|(with_reducible refine Kd.C_alloc ?_ _)|(with_reducible refine Kd.C_drewN ?_ _)|(with_reducible refine Kd.C_drew ?_)|exact HR102_0.out))|(with_reducible refine Kd.C_alloc ?_ _)|(with_reducible refine Kd.C_drewN ?_ _)|(with_reducible refine Kd.C_drew ?_)));(case side4 => exact HC102_0.out);rintro e w' ⟨rfl,⟨nd,rfl⟩⟩;(try first|exact ⟨rfl,_,World.drewN_drewN _ _ _⟩|exact ⟨rfl,_,Eq.trans (World.drewN_drewN _ _ _) (congrArg (World.drewN _) (Nat.add_assoc _ _ _))⟩)))
        repeat (go_quiet (first|(go_at_call 24;(with_reducible refine (inquestref00_Bytes.calls _ _ (rd_L4 x0_1 0) _ _ (rd_L4 x1_1 0) false _ ?side1 ?side2 ?side3 ?side4 A7.out).mono ?_);(case side1 => repeat (first|exact (by repeat (first|(with_reducible exact HR101_0.out)|(with_reducible refine Kd.C_alloc ?_ _)|(with_reducible refine Kd.C_drewN ?_ _)|(with_reducible refine Kd.C_drew ?_)|exact HR101_0.out))|(with_reducible refine Kd.C_alloc ?_ _)|(with_reducible refine Kd.C_drewN ?_ _)|(with_reducible refine Kd.C_drew ?_)));(case side2 => exact HC101_0.out);(case side3 => repeat (first|exact (by repeat (first|(with_reducible exact HR102_0.out)|(with_reducible refine Kd.C_alloc ?_ _)|(with_reducible refine Kd.C_drewN ?_ _)|(with_reducible refine Kd.C_drew ?_)|exact HR102_0.out))|(with_reducible refine Kd.C_alloc ?_ _)|(with_reducible refine Kd.C_drewN ?_ _)|(with_reducible refine Kd.C_drew ?_)));(case side4 => exact HC102_0.out);rintro e w' ⟨rfl,⟨nd,rfl⟩⟩;(try first|exact ⟨rfl,_,World.drewN_drewN _ _ _⟩|exact ⟨rfl,_,Eq.trans (World.drewN_drewN _ _ _) (congrArg (World.drewN _) (Nat.add_assoc _ _ _))⟩)));try go_wp2_with (first|(go_at_call 24;(with_reducible refine (inquestref00_Bytes.calls _ _ (rd_L4 x0_1 0) _ _ (rd_L4 x1_1 0) false _ ?side1 ?side2 ?side3 ?side4 A7.out).mono ?_);(case side1 => repeat (first|exact (by repeat (first|(with_reducible exact HR101_0.out)|(with_reducible refine Kd.C_alloc ?_ _)|(with_reducible refine Kd.C_drewN ?_ _)|(with_reducible refine Kd.C_drew ?_)|exact HR101_0.out))|(with_reducible refine Kd.C_alloc ?_ _)|(with_reducible refine Kd.C_drewN ?_ _)|(with_reducible refine Kd.C_drew ?_)));(case side2 => exact HC101_0.out);(case side3 => repeat (first|exact (by repeat (first|(with_reducible exact HR102_0.out)|(with_reducible refine Kd.C_alloc ?_ _)|(with_reducible refine Kd.C_drewN ?_ _)|(with_reducible refine Kd.C_drew ?_)|exact HR102_0.out))|(with_reducible refine Kd.C_alloc ?_ _)|(with_reducible refine Kd.C_drewN ?_ _)|(with_reducible refine Kd.C_drew ?_)));(case side4 => exact HC102_0.out);rintro e w' ⟨rfl,⟨nd,rfl⟩⟩;(try first|exact ⟨rfl,_,World.drewN_drewN _ _ _⟩|exact ⟨rfl,_,Eq.trans (World.drewN_drewN _ _ _) (congrArg (World.drewN _) (Nat.add_assoc _ _ _))⟩))))
        go_ret
        exact ⟨by first|rfl|(simp [errW_none,errW_some] <;> rfl)|(simp [*,errW_none,errW_some] <;> rfl),by repeat (first|(with_reducible first|exact HB.out|apply below_alloc|apply pw_below_drewN|apply below_drew1)|exact HB.out)⟩
      ·
       rw [if_neg c6] at H
       exact absurd H (by simp)
     ·
      rw [if_neg c5] at H
      exact absurd H (by simp)
    ·
     rw [if_neg c4] at H
     have c4b0 : decide (0 < (x0_1.length : Int)) = false:=decide_eq_false c4
     have c4b1 : decide (0 < x0_1.length) = false:=decide_eq_false (by omega)
     clear c4
     obtain rfl:=Option.some.inj H
     obtain ⟨Ao17,co17,eo17⟩:=Kd.V_slice HO_0.out
     subst eo17
     go_wp2
     repeat (go_quiet (fail);try go_wp2)
     go_ret
     exact ⟨by first|rfl|(simp [errW_none,errW_some] <;> rfl)|(simp [*,errW_none,errW_some] <;> rfl),by repeat (first|(with_reducible first|exact HB.out|apply below_alloc|apply pw_below_drewN|apply below_drew1)|exact HB.out)⟩
 ·
  rw [if_neg c3] at H
  have c3b0 : ((l0.length : Int) == (l1.length : Int)) = false:=beq_eq_false_iff_ne.mpr c3
  have c3b1 : ((l0.length : Int) != (l1.length : Int)) = true:=bne_iff_ne.mpr c3
  have c3b2 : (l0.length == l1.length) = false:=by first|simpa using c3|(simp at c3 ⊢;omega)
  obtain rfl:=Option.some.inj H
  go_enter Tryd.func28,Tryd.ntmps28
  go_wp2
  repeat (go_quiet (fail);try go_wp2)
  go_ret
  exact ⟨by first|rfl|(simp [errW_none,errW_some] <;> rfl)|(simp [*,errW_none,errW_some] <;> rfl),by repeat (first|(with_reducible first|exact HB.out|apply below_alloc|apply pw_below_drewN|apply below_drew1)|exact HB.out)⟩

end Go.Proofs.YthpnooookkpkaaaDoor.F
