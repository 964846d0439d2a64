/- Texts of this session for the claim of SimSure: functions of the program as plain Lean functions, that the machine's calls come to them, and plain facts of these. -/
import Derived.Test.YthpnooookkpkaaaDoorMSimSure6
import Derived.Test.YthpnooookkpkaaaDoorMSimSure9
import Derived.Test.YthpnooookkpkaaaDoorMSimSure0
import Derived.Test.YthpnooookkpkaaaDoorMSimSure2
import Derived.Test.YthpnooookkpkaaaDoorMSimSure1
import Derived.Test.YthpnooookkpkaaaDoorMSimSure4
import Derived.Outline
import Derived.BigQuiet
namespace Go.Proofs.YthpnooookkpkaaaDoor.F
open Go.RowKit Go.Proofs.YthpnooookkpkaaaDoorW.PrintWords Go.Proofs.YthpnooookkpkaaaDoorW.PrintLast Go.Proofs.YthpnooookkpkaaaDoorW.PrintMore
def shortB (I : List Int) (F : List (List Int)) : Bool := decide (I.length ≤ 1000000000000) && decide (F.length ≤ 1000000000) && F.all fun l => decide (l.length ≤ 1000000000000)
def sim_Read.f (a0_0 : Int) (l0_1 : List Int) (l0_2 : List (List Int)) : Option (Int × List Int × (List (List Int))) :=
  if (shortB l0_1 l0_2 && twB l0_1 l0_2) = true then some (a0_0, zeroed l0_1, l0_2.map zeroed) else none
theorem sim_Read.calls (a0_0 : Int) (A0_1 : Option Addr) (c0_1 : Nat) (l0_1 : List Int) (A0_2 : Option Addr) (c0_2 : Nat) (l0_2 : List (List Int)) (r1 : Int) (r2 : List Int) (r3 : List (List Int)) (w : World) (hr0_1 : Kd.C (Kd.int .u8) w A0_1 l0_1.length l0_1) (hc0_1 : l0_1.length ≤ c0_1) (hr0_2 : Kd.C (Kd.slice 5 (Kd.int .u8)) w A0_2 l0_2.length l0_2) (hc0_2 : l0_2.length ≤ c0_2) (h : sim_Read.f a0_0 l0_1 l0_2 = some (r1, r2, r3)) :
    Calls Tryd.prog 30 #[.agg #[.int .i64 a0_0, .slice A0_1 l0_1.length c0_1, .slice A0_2 l0_2.length c0_2]] w fun e w' => ∃ v1_ v2_ : Value, e = .returned (.agg #[.int .i64 r1, v1_, v2_]) ∧ Kd.R (Kd.int .u8) 5 w' w.heap.size (fun _ => True) v1_ r2 ∧ Kd.S (Kd.slice 5 (Kd.int .u8)) 27 w' w.heap.size (fun k_ => some k_ ≠ (v1_ : Value).ownBlock) v2_ r3 ∧ Below w.heap.size w w' := by
  unfold sim_Read.f at h
  split at h
  · rename_i hw
    unfold shortB twB at hw
    simp only [Bool.and_eq_true, decide_eq_true_iff, List.all_eq_true] at hw
    obtain ⟨⟨⟨h1, h2⟩, h3⟩, h4, h5⟩ := hw
    have hh := Option.some.inj h
    rw [Prod.mk.injEq, Prod.mk.injEq] at hh
    obtain ⟨rfl, rfl, rfl⟩ := hh
    exact Read_c ⟨a0_0, A0_1, c0_1, l0_1, A0_2, c0_2, l0_2⟩ w ⟨hr0_1, hc0_1, hr0_2, hc0_2⟩ ⟨h1, u8B_iff h4⟩ (fun l hl => ⟨h3 l hl, u8B_iff (h5 l hl)⟩) h2
  · cases h
end Go.Proofs.YthpnooookkpkaaaDoor.F
/- A function of the program as a plain Lean function, and that the machine's call comes to it: written by a program of this session over the kit's print. -/
namespace Go.Proofs.YthpnooookkpkaaaDoor.F
open Go.RowKit Go.Proofs.YthpnooookkpkaaaDoorW.PrintWords Go.Proofs.YthpnooookkpkaaaDoorW.PrintLast Go.Proofs.YthpnooookkpkaaaDoorW.PrintMore
attribute [local go_sem] max2_int min2_int max_two min_two max_three min_three max_four min_four   -- for this text's walks alone
set_option linter.unusedVariables false
set_option linter.unusedSimpArgs false

/-! ### sim_Fails: function 18 -/
def sim_Fails.f (a0_0 : Int) (l0_1 : List (S71)) (l0_2 : List (S84)) (l0_3 : List Int) (l0_4 : List Int) (l0_5 : List Int) (a1_0 : Int) (l1_1 : List Int) (l1_2 : List (List Int)) : Option (Bool × Int):=(norm_Fits.f a0_0 l0_1 l0_2 l0_3 l0_4 l0_5 a1_0 l1_1 l1_2).bind fun t103 => (if t103 = true then ((sim_Read.f a1_0 l1_1 l1_2).bind fun bt104 => ((sim_Surely.f a0_0 l0_1 l0_2 l0_3 l0_4 l0_5 bt104.1 bt104.2.1 bt104.2.2).bind fun bt111 => (some ((bt111.1 == 1),bt111.2)))) else (some (false,2)))
def sim_Fails.T3 : Bool × List (List Nat × List Nat):=(true,[([],[]),([],[]),([1],[1]),([0,2,2],[0,2]),([3],[3]),([4],[4]),([4],[4]),([5,3,0,1,2,3,4,5],[5]),([6,7,0,1,2,3,4,5,6,7],[6])])
def sim_Fails.B3 : List Nat:=[0,0,2,7,15,31,31,63,255]
theorem sim_Fails.tab3 : rtab .any (opsOf Tryd.f18 3) = sim_Fails.T3:=by kernel_rfl
theorem sim_Fails.bits3 : waitsOk sim_Fails.T3.2 sim_Fails.B3 = true:=by kernel_rfl
set_option maxHeartbeats 8000000 in
set_option maxRecDepth 100000 in
theorem sim_Fails.calls (a0_0 : Int) (A0_1 : Option Addr) (c0_1 : Nat) (l0_1 : List (S71)) (A0_2 : Option Addr) (c0_2 : Nat) (l0_2 : List (S84)) (A0_3 : Option Addr) (c0_3 : Nat) (l0_3 : List Int) (A0_4 : Option Addr) (c0_4 : Nat) (l0_4 : List Int) (A0_5 : Option Addr) (c0_5 : Nat) (l0_5 : List Int) (a1_0 : Int) (A1_1 : Option Addr) (c1_1 : Nat) (l1_1 : List Int) (A1_2 : Option Addr) (c1_2 : Nat) (l1_2 : List (List Int)) (r1 : Bool) (r2 : Int) (w : World) (hr0_1 : Kd.C k71 w A0_1 l0_1.length l0_1) (hc0_1 : l0_1.length ≤ c0_1) (hr0_2 : Kd.C k84 w A0_2 l0_2.length l0_2) (hc0_2 : l0_2.length ≤ c0_2) (hr0_3 : Kd.C (Kd.int .u32) w A0_3 l0_3.length l0_3) (hc0_3 : l0_3.length ≤ c0_3) (hr0_4 : Kd.C (Kd.int .u32) w A0_4 l0_4.length l0_4) (hc0_4 : l0_4.length ≤ c0_4) (hr0_5 : Kd.C (Kd.int .u32) w A0_5 l0_5.length l0_5) (hc0_5 : l0_5.length ≤ c0_5) (hr1_1 : Kd.C (Kd.int .u8) w A1_1 l1_1.length l1_1) (hc1_1 : l1_1.length ≤ c1_1) (hr1_2 : Kd.C (Kd.slice 5 (Kd.int .u8)) w A1_2 l1_2.length l1_2) (hc1_2 : l1_2.length ≤ c1_2) (h : sim_Fails.f a0_0 l0_1 l0_2 l0_3 l0_4 l0_5 a1_0 l1_1 l1_2 = some (r1,r2)) :
  Calls Tryd.prog 18 #[.agg #[.int .i64 a0_0,.slice A0_1 l0_1.length c0_1,.slice A0_2 l0_2.length c0_2,.slice A0_3 l0_3.length c0_3,.slice A0_4 l0_4.length c0_4,.slice A0_5 l0_5.length c0_5],.agg #[.int .i64 a1_0,.slice A1_1 l1_1.length c1_1,.slice A1_2 l1_2.length c1_2]] w fun e w' => e = .returned (.tuple #[.bool r1,.int .i64 r2])∧Below w.heap.size w w':=by
 have hu26:=Tryd.underlying26
 have hu30:=Tryd.underlying30
 have HR0_1:=Aside0.mk hr0_1
 have HC0_1:=Aside0.mk hc0_1
 clear hr0_1 hc0_1
 have HR0_2:=Aside0.mk hr0_2
 have HC0_2:=Aside0.mk hc0_2
 clear hr0_2 hc0_2
 have HR0_3:=Aside0.mk hr0_3
 have HC0_3:=Aside0.mk hc0_3
 clear hr0_3 hc0_3
 have HR0_4:=Aside0.mk hr0_4
 have HC0_4:=Aside0.mk hc0_4
 clear hr0_4 hc0_4
 have HR0_5:=Aside0.mk hr0_5
 have HC0_5:=Aside0.mk hc0_5
 clear hr0_5 hc0_5
 have HR1_1:=Aside0.mk hr1_1
 have HC1_1:=Aside0.mk hc1_1
 clear hr1_1 hc1_1
 have HR1_2:=Aside0.mk hr1_2
 have HC1_2:=Aside0.mk hc1_2
 clear hr1_2 hc1_2
 have HB:=Aside0.mk (Below.refl w.heap.size w)
 have H : ((norm_Fits.f a0_0 l0_1 l0_2 l0_3 l0_4 l0_5 a1_0 l1_1 l1_2).bind fun t103 => (if t103 = true then ((sim_Read.f a1_0 l1_1 l1_2).bind fun bt104 => ((sim_Surely.f a0_0 l0_1 l0_2 l0_3 l0_4 l0_5 bt104.1 bt104.2.1 bt104.2.2).bind fun bt111 => (some ((bt111.1 == 1),bt111.2)))) else (some (false,2)))) = some (r1,r2):=h
 clear h
 replace H:=Option.bind_eq_some_iff.mp H
 obtain ⟨t103,A30,H⟩:=H
 replace H : (if t103 = true then ((sim_Read.f a1_0 l1_1 l1_2).bind fun bt104 => ((sim_Surely.f a0_0 l0_1 l0_2 l0_3 l0_4 l0_5 bt104.1 bt104.2.1 bt104.2.2).bind fun bt111 => (some ((bt111.1 == 1),bt111.2)))) else (some (false,2))) = some (r1,r2):=H
 have A3:=Aside0.mk A30
 clear A30
 by_cases c4 : t103 = true
 ·
  subst c4
  have H1 : ((sim_Read.f a1_0 l1_1 l1_2).bind fun bt104 => ((sim_Surely.f a0_0 l0_1 l0_2 l0_3 l0_4 l0_5 bt104.1 bt104.2.1 bt104.2.2).bind fun bt111 => (some ((bt111.1 == 1),bt111.2)))) = some (r1,r2):=by rw [if_pos rfl] at H;exact H
  clear H
  have H:=H1
  clear H1
  replace H:=Option.bind_eq_some_iff.mp H
  obtain ⟨⟨t104,t105,t108⟩,A50,H⟩:=H
  replace H : ((sim_Surely.f a0_0 l0_1 l0_2 l0_3 l0_4 l0_5 t104 t105 t108).bind fun bt111 => (some ((bt111.1 == 1),bt111.2))) = some (r1,r2):=H
  have A5:=Aside0.mk A50
  clear A50
  replace H:=Option.bind_eq_some_iff.mp H
  obtain ⟨⟨t111,t112⟩,A60,H⟩:=H
  replace H : (some ((t111 == 1),t112)) = some (r1,r2):=H
  have A6:=Aside0.mk A60
  clear A60
  simp only [Option.some.injEq,Prod.mk.injEq] at H
  obtain ⟨rfl,rfl⟩:=H
  go_enter Tryd.func18,Tryd.ntmps18
  try go_wp2_with (first|((with_reducible refine gate_dst (N:=2) rfl ?_);refine box_event ?hg (N:=2) ?hd (cs:=#[.int .i64 a0_0,.slice A0_1 l0_1.length c0_1,.slice A0_2 l0_2.length c0_2,.slice A0_3 l0_3.length c0_3,.slice A0_4 l0_4.length c0_4,.slice A0_5 l0_5.length c0_5]) (t:=26) ?hr ?_;(case hd => rfl);(case hg => rfl);(case hr => first|(go_simp;done)|(go_simp;rfl));intro gb101 hg w7 hbox hb;have n0_:=Aside0.mk (below_step (by repeat (first|(with_reducible first|exact HB.out|apply below_alloc|apply pw_below_drewN|apply below_drew1)|exact HB.out)) hb);have n1_:=Aside0.mk (hbox);have n2_:=Aside0.mk ((by rw [hg];exact (below_size (by repeat (first|(with_reducible first|exact HB.out|apply below_alloc|apply pw_below_drewN|apply below_drew1)|exact HB.out))) : w.heap.size ≤ gb101));have n3_:=Aside0.mk ((by rw [hg];exact (below_size (by repeat (first|(with_reducible first|exact HB.out|apply below_alloc|apply pw_below_drewN|apply below_drew1)|exact HB.out))) : w.heap.size ≤ gb101));clear HB;have HB:=n0_;have BK101:=n1_;have GW101:=n2_;have GE101:=n3_;clear n0_ n1_ n2_ n3_;clear hb hbox hg)|((with_reducible refine gate_dst (N:=3) rfl ?_);refine box_event ?hg (N:=3) ?hd (cs:=#[.int .i64 a1_0,.slice A1_1 l1_1.length c1_1,.slice A1_2 l1_2.length c1_2]) (t:=30) ?hr ?_;(case hd => rfl);(case hg => rfl);(case hr => first|(go_simp;done)|(go_simp;rfl));intro gb102 hg w8 hbox hb;have n0_:=Aside0.mk (blk_below (g:=gb101) (o:=.cells #[.int .i64 a0_0,.slice A0_1 l0_1.length c0_1,.slice A0_2 l0_2.length c0_2,.slice A0_3 l0_3.length c0_3,.slice A0_4 l0_4.length c0_4,.slice A0_5 l0_5.length c0_5] 26 (0,0)) (by (with_reducible repeat (first|refine blk_drewN ?_ _|refine blk_drew ?_|refine blk_alloc ?_ _));exact BK101.out) hb);have n1_:=Aside0.mk (below_step (by repeat (first|(with_reducible first|exact HB.out|apply below_alloc|apply pw_below_drewN|apply below_drew1|refine below_set ?_ GE101.out)|exact HB.out)) hb);have n2_:=Aside0.mk (hbox);have n3_:=Aside0.mk ((by rw [hg];exact (below_size (by repeat (first|(with_reducible first|exact HB.out|apply below_alloc|apply pw_below_drewN|apply below_drew1|refine below_set ?_ GE101.out)|exact HB.out))) : w.heap.size ≤ gb102));have n4_:=Aside0.mk ((by rw [hg];exact (below_size (by repeat (first|(with_reducible first|exact HB.out|apply below_alloc|apply pw_below_drewN|apply below_drew1|refine below_set ?_ GE101.out)|exact HB.out))) : w.heap.size ≤ gb102));have n5_:=Aside0.mk ((by rw [hg];exact Nat.ne_of_lt (blk_lt (g:=gb101) (o:=.cells #[.int .i64 a0_0,.slice A0_1 l0_1.length c0_1,.slice A0_2 l0_2.length c0_2,.slice A0_3 l0_3.length c0_3,.slice A0_4 l0_4.length c0_4,.slice A0_5 l0_5.length c0_5] 26 (0,0)) (by (with_reducible repeat (first|refine blk_drewN ?_ _|refine blk_drew ?_|refine blk_alloc ?_ _));exact BK101.out)) : gb101 ≠ gb102));have n6_:=Aside0.mk ((by rw [hg];exact Nat.ne_of_gt (blk_lt (g:=gb101) (o:=.cells #[.int .i64 a0_0,.slice A0_1 l0_1.length c0_1,.slice A0_2 l0_2.length c0_2,.slice A0_3 l0_3.length c0_3,.slice A0_4 l0_4.length c0_4,.slice A0_5 l0_5.length c0_5] 26 (0,0)) (by (with_reducible repeat (first|refine blk_drewN ?_ _|refine blk_drew ?_|refine blk_alloc ?_ _));exact BK101.out)) : gb102 ≠ gb101));clear BK101;clear HB;have BK101:=n0_;have HB:=n1_;have BK102:=n2_;have GW102:=n3_;have GE102:=n4_;have NB101_102:=n5_;have NB102_101:=n6_;clear n0_ n1_ n2_ n3_ n4_ n5_ n6_;clear hb hbox hg;have hnb9:=NB101_102.out;have hnc9:=NB102_101.out;have hcz10_0 : w8.cell? ⟨gb101,0,none⟩ = some (.int .i64 a0_0):=(blk_cell BK101.out 0).trans rfl;have hcz10_1 : w8.cell? ⟨gb101,1,none⟩ = some (.slice A0_1 l0_1.length c0_1):=(blk_cell BK101.out 1).trans rfl;have hcz10_2 : w8.cell? ⟨gb101,2,none⟩ = some (.slice A0_2 l0_2.length c0_2):=(blk_cell BK101.out 2).trans rfl;have hcz10_3 : w8.cell? ⟨gb101,3,none⟩ = some (.slice A0_3 l0_3.length c0_3):=(blk_cell BK101.out 3).trans rfl;have hcz10_4 : w8.cell? ⟨gb101,4,none⟩ = some (.slice A0_4 l0_4.length c0_4):=(blk_cell BK101.out 4).trans rfl;have hcz10_5 : w8.cell? ⟨gb101,5,none⟩ = some (.slice A0_5 l0_5.length c0_5):=(blk_cell BK101.out 5).trans rfl;have hfz10_0:=blk_frozen BK101.out 0;have hfz10_1:=blk_frozen BK101.out 1;have hfz10_2:=blk_frozen BK101.out 2;have hfz10_3:=blk_frozen BK101.out 3;have hfz10_4:=blk_frozen BK101.out 4;have hfz10_5:=blk_frozen BK101.out 5;have hcz11_0 : w8.cell? ⟨gb102,0,none⟩ = some (.int .i64 a1_0):=(blk_cell BK102.out 0).trans rfl;have hcz11_1 : w8.cell? ⟨gb102,1,none⟩ = some (.slice A1_1 l1_1.length c1_1):=(blk_cell BK102.out 1).trans rfl;have hcz11_2 : w8.cell? ⟨gb102,2,none⟩ = some (.slice A1_2 l1_2.length c1_2):=(blk_cell BK102.out 2).trans rfl;have hfz11_0:=blk_frozen BK102.out 0;have hfz11_1:=blk_frozen BK102.out 1;have hfz11_2:=blk_frozen BK102.out 2)|((with_reducible refine gate_callee (f:=61) rfl ?_);refine goesL_ (some 10) rfl rfl Tryd.func61 (by kernel_rfl) rfl #[.agg #[.int .i64 a0_0,.slice A0_1 l0_1.length c0_1,.slice A0_2 l0_2.length c0_2,.slice A0_3 l0_3.length c0_3,.slice A0_4 l0_4.length c0_4,.slice A0_5 l0_5.length c0_5],.agg #[.int .i64 a1_0,.slice A1_1 l1_1.length c1_1,.slice A1_2 l1_2.length c1_2]] rfl (by (try simp only [List.map_toArray,List.map_cons,List.map_nil]);first|done|rfl|(simp only [List.length_drop,List.length_take];rfl)) ?_;(with_reducible refine (norm_Fits.calls a0_0 _ _ l0_1 _ _ l0_2 _ _ l0_3 _ _ l0_4 _ _ l0_5 a1_0 _ _ l1_1 _ _ l1_2 true _ ?side1 ?side2 ?side3 ?side4 ?side5 ?side6 ?side7 ?side8 ?side9 ?side10 ?side11 ?side12 ?side13 ?side14 A3.out).mono ?_);(case side1 => repeat (first|exact (Kd.C_below HR0_1.out HB.out)|(with_reducible refine Kd.C_alloc ?_ _)|(with_reducible refine Kd.C_drewN ?_ _)|(with_reducible refine Kd.C_drew ?_)));(case side2 => exact HC0_1.out);(case side3 => repeat (first|exact (Kd.C_below HR0_2.out HB.out)|(with_reducible refine Kd.C_alloc ?_ _)|(with_reducible refine Kd.C_drewN ?_ _)|(with_reducible refine Kd.C_drew ?_)));(case side4 => exact HC0_2.out);(case side5 => repeat (first|exact (Kd.C_below HR0_3.out HB.out)|(with_reducible refine Kd.C_alloc ?_ _)|(with_reducible refine Kd.C_drewN ?_ _)|(with_reducible refine Kd.C_drew ?_)));(case side6 => exact HC0_3.out);(case side7 => repeat (first|exact (Kd.C_below HR0_4.out HB.out)|(with_reducible refine Kd.C_alloc ?_ _)|(with_reducible refine Kd.C_drewN ?_ _)|(with_reducible refine Kd.C_drew ?_)));(case side8 => exact HC0_4.out);(case side9 => repeat (first|exact (Kd.C_below HR0_5.out HB.out)|(with_reducible refine Kd.C_alloc ?_ _)|(with_reducible refine Kd.C_drewN ?_ _)|(with_reducible refine Kd.C_drew ?_)));(case side10 => exact HC0_5.out);(case side11 => repeat (first|exact (Kd.C_below HR1_1.out HB.out)|(with_reducible refine Kd.C_alloc ?_ _)|(with_reducible refine Kd.C_drewN ?_ _)|(with_reducible refine Kd.C_drew ?_)));(case side12 => exact HC1_1.out);(case side13 => repeat (first|exact (Kd.C_below HR1_2.out HB.out)|(with_reducible refine Kd.C_alloc ?_ _)|(with_reducible refine Kd.C_drewN ?_ _)|(with_reducible refine Kd.C_drew ?_)));(case side14 => exact HC1_2.out);rintro e w12 ⟨rfl,hb⟩;refine ⟨_,rfl,?_⟩;have n0_:=Aside0.mk (blk_below (g:=gb101) (o:=.cells #[.int .i64 a0_0,.slice A0_1 l0_1.length c0_1,.slice A0_2 l0_2.length c0_2,.slice A0_3 l0_3.length c0_3,.slice A0_4 l0_4.length c0_4,.slice A0_5 l0_5.length c0_5] 26 (0,0)) (by (with_reducible repeat (first|refine blk_drewN ?_ _|refine blk_drew ?_|refine blk_alloc ?_ _));exact BK101.out) hb);have n1_:=Aside0.mk (blk_below (g:=gb102) (o:=.cells #[.int .i64 a1_0,.slice A1_1 l1_1.length c1_1,.slice A1_2 l1_2.length c1_2] 30 (0,0)) (by (with_reducible repeat (first|refine blk_drewN ?_ _|refine blk_drew ?_|refine blk_alloc ?_ _));exact BK102.out) hb);have n2_:=Aside0.mk (below_step (by repeat (first|(with_reducible first|exact HB.out|apply below_alloc|apply pw_below_drewN|apply below_drew1|refine below_set ?_ GE101.out|refine below_set ?_ GE102.out)|exact HB.out)) hb);clear BK101;clear BK102;clear HB;have BK101:=n0_;have BK102:=n1_;have HB:=n2_;clear n0_ n1_ n2_;(try clear hb);(try clear hb2);(try clear hk);(try clear hi)))
  have n0_:=Aside0.mk (blk_drew BK101.out)
  have n1_:=Aside0.mk (blk_drew BK102.out)
  have n2_:=Aside0.mk (below_drew1 HB.out)
  clear BK101
  clear BK102
  clear HB
  have BK101:=n0_
  have BK102:=n1_
  have HB:=n2_
  clear n0_ n1_ n2_
  refine start_ (n:=9) (S:=fun w' => w'.cell? ⟨gb101,0,none⟩ = some (.int .i64 a0_0)∧w'.cell? ⟨gb101,1,none⟩ = some (.slice A0_1 l0_1.length c0_1)∧w'.cell? ⟨gb101,2,none⟩ = some (.slice A0_2 l0_2.length c0_2)∧w'.cell? ⟨gb101,3,none⟩ = some (.slice A0_3 l0_3.length c0_3)∧w'.cell? ⟨gb101,4,none⟩ = some (.slice A0_4 l0_4.length c0_4)∧w'.cell? ⟨gb101,5,none⟩ = some (.slice A0_5 l0_5.length c0_5)∧w'.cell? ⟨gb102,0,none⟩ = some (.int .i64 a1_0)∧w'.cell? ⟨gb102,1,none⟩ = some (.slice A1_1 l1_1.length c1_1)∧w'.cell? ⟨gb102,2,none⟩ = some (.slice A1_2 l1_2.length c1_2)) (ds:=[]) #[false,false,false,false,false,false,false,false,false] (by kernel_rfl) rfl rfl ⟨(blk_cell BK101.out 0).trans rfl,(blk_cell BK101.out 1).trans rfl,(blk_cell BK101.out 2).trans rfl,(blk_cell BK101.out 3).trans rfl,(blk_cell BK101.out 4).trans rfl,(blk_cell BK101.out 5).trans rfl,(blk_cell BK102.out 0).trans rfl,(blk_cell BK102.out 1).trans rfl,(blk_cell BK102.out 2).trans rfl⟩ (fun hHeld => ?_);refine with_tabW sim_Fails.tab3 sim_Fails.bits3 (fun HT_ HW_ => ?_)
  generalize w12.drew = w13 at BK101 BK102 HB hHeld ⊢
  refine take_ (i:=0) (N:=some 13) (v:=?_) (a':=?_) #[true,false,false,false,false,false,false,false,false] rfl rfl (take_ofW HT_.out HW_.out (by kernel_rfl)) (fun _ _ _ h => h) (Or.inl ⟨by rfl,?_⟩) hHeld ?_ ?_
  rotate_left
  ·
   rintro w' ⟨s0,s1,s2,s3,s4,s5,s6,s7,s8⟩
   go_simp
   with_reducible rfl
  rotate_left
  ·
   simp only [Act.put,List.setIfInBounds_toArray,List.set_cons_zero,List.set_cons_succ,i64_w,i32_w]
   rfl
  refine take_ (i:=1) (N:=some 14) (v:=?_) (a':=?_) #[true,true,false,false,false,false,false,false,false] rfl rfl (take_ofW HT_.out HW_.out (by kernel_rfl)) (fun _ _ _ h => h) (Or.inl ⟨by rfl,?_⟩) hHeld ?_ ?_
  rotate_left
  ·
   rintro w' ⟨s0,s1,s2,s3,s4,s5,s6,s7,s8⟩
   go_simp
   with_reducible rfl
  rotate_left
  ·
   simp only [Act.put,List.setIfInBounds_toArray,List.set_cons_zero,List.set_cons_succ,i64_w,i32_w]
   rfl
  refine one_ (i:=2) (N:=some 15) #[true,true,true,false,false,false,false,false,false] rfl rfl (one_of HT_.out (by kernel_rfl)) (by decide) (fun K hK => ?_)
  refine goes_ Tryd.func30 (by kernel_rfl) rfl #[.agg #[.int .i64 a1_0,.slice A1_1 l1_1.length c1_1,.slice A1_2 l1_2.length c1_2]] (by rfl) rfl rfl (by (try simp only [List.map_toArray,List.map_cons,List.map_nil]);first|done|rfl|(simp only [List.length_drop,List.length_take];rfl)) ?_
  with_reducible refine (sim_Read.calls a1_0 _ _ l1_1 _ _ l1_2 t104 t105 t108 _ ?side1 ?side2 ?side3 ?side4 A5.out).mono ?_
  (case side1 => repeat (first|exact (Kd.C_below HR1_1.out HB.out)|(with_reducible refine Kd.C_alloc ?_ _)|(with_reducible refine Kd.C_drewN ?_ _)|(with_reducible refine Kd.C_drew ?_)))
  (case side2 => exact HC1_1.out)
  (case side3 => repeat (first|exact (Kd.C_below HR1_2.out HB.out)|(with_reducible refine Kd.C_alloc ?_ _)|(with_reducible refine Kd.C_drewN ?_ _)|(with_reducible refine Kd.C_drew ?_)))
  (case side4 => exact HC1_2.out)
  rintro e w14 ⟨v106,v109,rfl,ho0,ho1,hb⟩
  refine ⟨_,rfl,?_⟩
  have n0_:=Aside0.mk (Kd.R_lower ho0 (below_size (by repeat (first|(with_reducible first|exact HB.out|apply below_alloc|apply pw_below_drewN|apply below_drew1|refine below_set ?_ GE101.out|refine below_set ?_ GE102.out)|exact HB.out))))
  have n1_:=Aside0.mk (Kd.S_lower ho1 (below_size (by repeat (first|(with_reducible first|exact HB.out|apply below_alloc|apply pw_below_drewN|apply below_drew1|refine below_set ?_ GE101.out|refine below_set ?_ GE102.out)|exact HB.out))))
  have n2_:=Aside0.mk (blk_below (g:=gb101) (o:=.cells #[.int .i64 a0_0,.slice A0_1 l0_1.length c0_1,.slice A0_2 l0_2.length c0_2,.slice A0_3 l0_3.length c0_3,.slice A0_4 l0_4.length c0_4,.slice A0_5 l0_5.length c0_5] 26 (0,0)) (by (with_reducible repeat (first|refine blk_drewN ?_ _|refine blk_drew ?_|refine blk_alloc ?_ _));exact BK101.out) hb)
  have n3_:=Aside0.mk (blk_below (g:=gb102) (o:=.cells #[.int .i64 a1_0,.slice A1_1 l1_1.length c1_1,.slice A1_2 l1_2.length c1_2] 30 (0,0)) (by (with_reducible repeat (first|refine blk_drewN ?_ _|refine blk_drew ?_|refine blk_alloc ?_ _));exact BK102.out) hb)
  have n4_:=Aside0.mk (below_step (by repeat (first|(with_reducible first|exact HB.out|apply below_alloc|apply pw_below_drewN|apply below_drew1|refine below_set ?_ GE101.out|refine below_set ?_ GE102.out)|exact HB.out)) hb)
  clear BK101
  clear BK102
  clear HB
  have HO107:=n0_
  have HO110:=n1_
  have BK101:=n2_
  have BK102:=n3_
  have HB:=n4_
  clear n0_ n1_ n2_ n3_ n4_
  (try clear hb)
  (try clear hb2)
  (try clear hk)
  (try clear hi)
  (try clear ho0)
  (try clear ho1)
  obtain ⟨Ao15,co15,eo15⟩:=Kd.R_slice HO107.out
  (first|subst eo15|(injection eo15 with f1_ f2_ f3_;have f4_:=f1_.symm;have f5_:=f3_.symm;clear f1_ f2_ f3_;subst f4_;subst f5_))
  obtain ⟨Ao16,co16,eo16⟩:=Kd.S_slice HO110.out
  (first|subst eo16|(injection eo16 with f1_ f2_ f3_;have f4_:=f1_.symm;have f5_:=f3_.symm;clear f1_ f2_ f3_;subst f4_;subst f5_))
  refine hK.out _ _ ⟨(blk_cell BK101.out 0).trans rfl,(blk_cell BK101.out 1).trans rfl,(blk_cell BK101.out 2).trans rfl,(blk_cell BK101.out 3).trans rfl,(blk_cell BK101.out 4).trans rfl,(blk_cell BK101.out 5).trans rfl,(blk_cell BK102.out 0).trans rfl,(blk_cell BK102.out 1).trans rfl,(blk_cell BK102.out 2).trans rfl⟩ (fun hHeld => ?_)
  clear hK K
  refine norm_ (a':=?_) ?_ ?_
  rotate_left
  ·
   show Act.put _ (some 15) _ = _
   simp only [Act.put,List.setIfInBounds_toArray,List.set_cons_zero,List.set_cons_succ,i64_w,i32_w]
   rfl
  refine one_ (i:=3) (N:=some 16) #[true,true,true,true,false,false,false,false,false] rfl rfl (one_of HT_.out (by kernel_rfl)) (by decide) (fun K hK => ?_)
  refine goes_ Tryd.func15 (by kernel_rfl) rfl #[.agg #[.int .i64 a0_0,.slice A0_1 l0_1.length c0_1,.slice A0_2 l0_2.length c0_2,.slice A0_3 l0_3.length c0_3,.slice A0_4 l0_4.length c0_4,.slice A0_5 l0_5.length c0_5],.agg #[.int .i64 t104,.slice Ao15 t105.length co15,.slice Ao16 t108.length co16]] (by rfl) rfl rfl (by (try simp only [List.map_toArray,List.map_cons,List.map_nil]);first|done|rfl|(simp only [List.length_drop,List.length_take];rfl)) ?_
  with_reducible refine (sim_Surely.calls a0_0 _ _ l0_1 _ _ l0_2 _ _ l0_3 _ _ l0_4 _ _ l0_5 t104 _ _ t105 _ _ t108 t111 t112 _ ?side1 ?side2 ?side3 ?side4 ?side5 ?side6 ?side7 ?side8 ?side9 ?side10 ?side11 ?side12 ?side13 ?side14 A6.out).mono ?_
  (case side1 => repeat (first|exact (Kd.C_below HR0_1.out HB.out)|(with_reducible refine Kd.C_alloc ?_ _)|(with_reducible refine Kd.C_drewN ?_ _)|(with_reducible refine Kd.C_drew ?_)))
  (case side2 => exact HC0_1.out)
  (case side3 => repeat (first|exact (Kd.C_below HR0_2.out HB.out)|(with_reducible refine Kd.C_alloc ?_ _)|(with_reducible refine Kd.C_drewN ?_ _)|(with_reducible refine Kd.C_drew ?_)))
  (case side4 => exact HC0_2.out)
  (case side5 => repeat (first|exact (Kd.C_below HR0_3.out HB.out)|(with_reducible refine Kd.C_alloc ?_ _)|(with_reducible refine Kd.C_drewN ?_ _)|(with_reducible refine Kd.C_drew ?_)))
  (case side6 => exact HC0_3.out)
  (case side7 => repeat (first|exact (Kd.C_below HR0_4.out HB.out)|(with_reducible refine Kd.C_alloc ?_ _)|(with_reducible refine Kd.C_drewN ?_ _)|(with_reducible refine Kd.C_drew ?_)))
  (case side8 => exact HC0_4.out)
  (case side9 => repeat (first|exact (Kd.C_below HR0_5.out HB.out)|(with_reducible refine Kd.C_alloc ?_ _)|(with_reducible refine Kd.C_drewN ?_ _)|(with_reducible refine Kd.C_drew ?_)))
  (case side10 => exact HC0_5.out)
  (case side11 => repeat (first|exact (Kd.R_reads' HO107.out).2.2|(with_reducible refine Kd.C_alloc ?_ _)|(with_reducible refine Kd.C_drewN ?_ _)|(with_reducible refine Kd.C_drew ?_)))
  (case side12 => exact (Kd.R_reads' HO107.out).2.1)
  (case side13 => repeat (first|exact (Kd.S_reads' HO110.out).2.2|(with_reducible refine Kd.C_alloc ?_ _)|(with_reducible refine Kd.C_drewN ?_ _)|(with_reducible refine Kd.C_drew ?_)))
  (case side14 => exact (Kd.S_reads' HO110.out).2.1)
  rintro e w17 ⟨rfl,hb⟩
  refine ⟨_,rfl,?_⟩
  have n0_:=Aside0.mk (Kd.R_below (by (with_reducible repeat (first|apply Kd.R_alloc|apply Kd.R_drewN|apply Kd.R_drew));exact HO107.out) hb)
  have n1_:=Aside0.mk (Kd.S_below (by (with_reducible repeat (first|apply Kd.S_alloc|apply Kd.S_drewN|apply Kd.S_drew));exact HO110.out) hb)
  have n2_:=Aside0.mk (blk_below (g:=gb101) (o:=.cells #[.int .i64 a0_0,.slice A0_1 l0_1.length c0_1,.slice A0_2 l0_2.length c0_2,.slice A0_3 l0_3.length c0_3,.slice A0_4 l0_4.length c0_4,.slice A0_5 l0_5.length c0_5] 26 (0,0)) (by (with_reducible repeat (first|refine blk_drewN ?_ _|refine blk_drew ?_|refine blk_alloc ?_ _));exact BK101.out) hb)
  have n3_:=Aside0.mk (blk_below (g:=gb102) (o:=.cells #[.int .i64 a1_0,.slice A1_1 l1_1.length c1_1,.slice A1_2 l1_2.length c1_2] 30 (0,0)) (by (with_reducible repeat (first|refine blk_drewN ?_ _|refine blk_drew ?_|refine blk_alloc ?_ _));exact BK102.out) hb)
  have n4_:=Aside0.mk (below_step (by repeat (first|(with_reducible first|exact HB.out|apply below_alloc|apply pw_below_drewN|apply below_drew1|refine below_set ?_ GE101.out|refine below_set ?_ GE102.out)|exact HB.out)) hb)
  clear HO107
  clear HO110
  clear BK101
  clear BK102
  clear HB
  have HO107:=n0_
  have HO110:=n1_
  have BK101:=n2_
  have BK102:=n3_
  have HB:=n4_
  clear n0_ n1_ n2_ n3_ n4_
  (try clear hb)
  (try clear hb2)
  (try clear hk)
  (try clear hi)
  refine hK.out _ _ ⟨(blk_cell BK101.out 0).trans rfl,(blk_cell BK101.out 1).trans rfl,(blk_cell BK101.out 2).trans rfl,(blk_cell BK101.out 3).trans rfl,(blk_cell BK101.out 4).trans rfl,(blk_cell BK101.out 5).trans rfl,(blk_cell BK102.out 0).trans rfl,(blk_cell BK102.out 1).trans rfl,(blk_cell BK102.out 2).trans rfl⟩ (fun hHeld => ?_)
  clear hK K
  refine norm_ (a':=?_) ?_ ?_
  rotate_left
  ·
   show Act.put _ (some 16) _ = _
   simp only [Act.put,List.setIfInBounds_toArray,List.set_cons_zero,List.set_cons_succ,i64_w,i32_w]
   rfl
  refine pure_ (i:=4) (N:=some 12) (v:=?_) (a':=?_) #[true,true,true,true,true,false,false,false,false] rfl rfl (any_of HT_.out (by kernel_rfl)) (fun _ _ _ h => h) (Or.inl ⟨by rfl,?_⟩) ?_ ?_
  rotate_left
  ·
   intro w'
   go_simp
   with_reducible rfl
  rotate_left
  ·
   simp only [Act.put,List.setIfInBounds_toArray,List.set_cons_zero,List.set_cons_succ,i64_w,i32_w]
   rfl
  refine pure_ (i:=5) (N:=some 17) (v:=?_) (a':=?_) #[true,true,true,true,true,true,false,false,false] rfl rfl (any_of HT_.out (by kernel_rfl)) (fun _ _ _ h => h) (Or.inl ⟨by rfl,?_⟩) ?_ ?_
  rotate_left
  ·
   intro w'
   go_simp
   with_reducible rfl
  rotate_left
  ·
   simp only [Act.put,List.setIfInBounds_toArray,List.set_cons_zero,List.set_cons_succ,i64_w,i32_w]
   rfl
  refine pure_ (i:=6) (N:=some 18) (v:=?_) (a':=?_) #[true,true,true,true,true,true,true,false,false] rfl rfl (any_of HT_.out (by kernel_rfl)) (fun _ _ _ h => h) (Or.inl ⟨by rfl,?_⟩) ?_ ?_
  rotate_left
  ·
   intro w'
   go_simp
   with_reducible rfl
  rotate_left
  ·
   simp only [Act.put,List.setIfInBounds_toArray,List.set_cons_zero,List.set_cons_succ,i64_w,i32_w]
   rfl
  refine pure_ (i:=7) (N:=some 6) (v:=?_) (a':=?_) #[true,true,true,true,true,true,true,true,false] rfl rfl (any_of HT_.out (by kernel_rfl)) (fun _ _ _ h => h) (Or.inl ⟨by rfl,?_⟩) ?_ ?_
  rotate_left
  ·
   intro w'
   go_simp
   with_reducible rfl
  rotate_left
  ·
   simp only [Act.put,List.setIfInBounds_toArray,List.set_cons_zero,List.set_cons_succ,i64_w,i32_w]
   rfl
  refine pure_ (i:=8) (N:=some 7) (v:=?_) (a':=?_) #[true,true,true,true,true,true,true,true,true] rfl rfl (any_of HT_.out (by kernel_rfl)) (fun _ _ _ h => h) (Or.inl ⟨by rfl,?_⟩) ?_ ?_
  rotate_left
  ·
   intro w'
   go_simp
   with_reducible rfl
  rotate_left
  ·
   simp only [Act.put,List.setIfInBounds_toArray,List.set_cons_zero,List.set_cons_succ,i64_w,i32_w]
   rfl
  refine done_ (done_of HT_.out (by kernel_rfl)) ?_
  try go_wp2
  go_ret2
  exact ⟨by first|rfl|(simp [errW_none,errW_some] <;> rfl)|(simp [*,errW_none,errW_some] <;> rfl),by repeat (first|(with_reducible first|exact HB.out|apply below_alloc|apply pw_below_drewN|apply below_drew1|refine below_set ?_ GE101.out|refine below_set ?_ GE102.out)|exact HB.out)⟩
 ·
  replace c4:=Bool.eq_false_iff.mpr c4
  subst c4
  have H1 : (some (false,2)) = some (r1,r2):=by rw [if_neg (show ¬ (false = true) by decide)] at H;exact H
  clear H
  have H:=H1
  clear H1
  simp only [Option.some.injEq,Prod.mk.injEq] at H
  obtain ⟨rfl,rfl⟩:=H
  go_enter Tryd.func18,Tryd.ntmps18
  go_wp2_with (first|((with_reducible refine gate_dst (N:=2) rfl ?_);refine box_event ?hg (N:=2) ?hd (cs:=#[.int .i64 a0_0,.slice A0_1 l0_1.length c0_1,.slice A0_2 l0_2.length c0_2,.slice A0_3 l0_3.length c0_3,.slice A0_4 l0_4.length c0_4,.slice A0_5 l0_5.length c0_5]) (t:=26) ?hr ?_;(case hd => rfl);(case hg => rfl);(case hr => first|(go_simp;done)|(go_simp;rfl));intro gb101 hg w18 hbox hb;have n0_:=Aside0.mk (below_step (by repeat (first|(with_reducible first|exact HB.out|apply below_alloc|apply pw_below_drewN|apply below_drew1)|exact HB.out)) hb);have n1_:=Aside0.mk (hbox);have n2_:=Aside0.mk ((by rw [hg];exact (below_size (by repeat (first|(with_reducible first|exact HB.out|apply below_alloc|apply pw_below_drewN|apply below_drew1)|exact HB.out))) : w.heap.size ≤ gb101));have n3_:=Aside0.mk ((by rw [hg];exact (below_size (by repeat (first|(with_reducible first|exact HB.out|apply below_alloc|apply pw_below_drewN|apply below_drew1)|exact HB.out))) : w.heap.size ≤ gb101));clear HB;have HB:=n0_;have BK101:=n1_;have GW101:=n2_;have GE101:=n3_;clear n0_ n1_ n2_ n3_;clear hb hbox hg)|((with_reducible refine gate_dst (N:=3) rfl ?_);refine box_event ?hg (N:=3) ?hd (cs:=#[.int .i64 a1_0,.slice A1_1 l1_1.length c1_1,.slice A1_2 l1_2.length c1_2]) (t:=30) ?hr ?_;(case hd => rfl);(case hg => rfl);(case hr => first|(go_simp;done)|(go_simp;rfl));intro gb102 hg w19 hbox hb;have n0_:=Aside0.mk (blk_below (g:=gb101) (o:=.cells #[.int .i64 a0_0,.slice A0_1 l0_1.length c0_1,.slice A0_2 l0_2.length c0_2,.slice A0_3 l0_3.length c0_3,.slice A0_4 l0_4.length c0_4,.slice A0_5 l0_5.length c0_5] 26 (0,0)) (by (with_reducible repeat (first|refine blk_drewN ?_ _|refine blk_drew ?_|refine blk_alloc ?_ _));exact BK101.out) hb);have n1_:=Aside0.mk (below_step (by repeat (first|(with_reducible first|exact HB.out|apply below_alloc|apply pw_below_drewN|apply below_drew1|refine below_set ?_ GE101.out)|exact HB.out)) hb);have n2_:=Aside0.mk (hbox);have n3_:=Aside0.mk ((by rw [hg];exact (below_size (by repeat (first|(with_reducible first|exact HB.out|apply below_alloc|apply pw_below_drewN|apply below_drew1|refine below_set ?_ GE101.out)|exact HB.out))) : w.heap.size ≤ gb102));have n4_:=Aside0.mk ((by rw [hg];exact (below_size (by repeat (first|(with_reducible first|exact HB.out|apply below_alloc|apply pw_below_drewN|apply below_drew1|refine below_set ?_ GE101.out)|exact HB.out))) : w.heap.size ≤ gb102));have n5_:=Aside0.mk ((by rw [hg];exact Nat.ne_of_lt (blk_lt (g:=gb101) (o:=.cells #[.int .i64 a0_0,.slice A0_1 l0_1.length c0_1,.slice A0_2 l0_2.length c0_2,.slice A0_3 l0_3.length c0_3,.slice A0_4 l0_4.length c0_4,.slice A0_5 l0_5.length c0_5] 26 (0,0)) (by (with_reducible repeat (first|refine blk_drewN ?_ _|refine blk_drew ?_|refine blk_alloc ?_ _));exact BK101.out)) : gb101 ≠ gb102));have n6_:=Aside0.mk ((by rw [hg];exact Nat.ne_of_gt (blk_lt (g:=gb101) (o:=.cells #[.int .i64 a0_0,.slice A0_1 l0_1.length c0_1,.slice A0_2 l0_2.length c0_2,.slice A0_3 l0_3.length c0_3,.slice A0_4 l0_4.length c0_4,.slice A0_5 l0_5.length c0_5] 26 (0,0)) (by (with_reducible repeat (first|refine blk_drewN ?_ _|refine blk_drew ?_|refine blk_alloc ?_ _));exact BK101.out)) : gb102 ≠ gb101));clear BK101;clear HB;have BK101:=n0_;have HB:=n1_;have BK102:=n2_;have GW102:=n3_;have GE102:=n4_;have NB101_102:=n5_;have NB102_101:=n6_;clear n0_ n1_ n2_ n3_ n4_ n5_ n6_;clear hb hbox hg;have hnb20:=NB101_102.out;have hnc20:=NB102_101.out;have hcz21_0 : w19.cell? ⟨gb101,0,none⟩ = some (.int .i64 a0_0):=(blk_cell BK101.out 0).trans rfl;have hcz21_1 : w19.cell? ⟨gb101,1,none⟩ = some (.slice A0_1 l0_1.length c0_1):=(blk_cell BK101.out 1).trans rfl;have hcz21_2 : w19.cell? ⟨gb101,2,none⟩ = some (.slice A0_2 l0_2.length c0_2):=(blk_cell BK101.out 2).trans rfl;have hcz21_3 : w19.cell? ⟨gb101,3,none⟩ = some (.slice A0_3 l0_3.length c0_3):=(blk_cell BK101.out 3).trans rfl;have hcz21_4 : w19.cell? ⟨gb101,4,none⟩ = some (.slice A0_4 l0_4.length c0_4):=(blk_cell BK101.out 4).trans rfl;have hcz21_5 : w19.cell? ⟨gb101,5,none⟩ = some (.slice A0_5 l0_5.length c0_5):=(blk_cell BK101.out 5).trans rfl;have hfz21_0:=blk_frozen BK101.out 0;have hfz21_1:=blk_frozen BK101.out 1;have hfz21_2:=blk_frozen BK101.out 2;have hfz21_3:=blk_frozen BK101.out 3;have hfz21_4:=blk_frozen BK101.out 4;have hfz21_5:=blk_frozen BK101.out 5;have hcz22_0 : w19.cell? ⟨gb102,0,none⟩ = some (.int .i64 a1_0):=(blk_cell BK102.out 0).trans rfl;have hcz22_1 : w19.cell? ⟨gb102,1,none⟩ = some (.slice A1_1 l1_1.length c1_1):=(blk_cell BK102.out 1).trans rfl;have hcz22_2 : w19.cell? ⟨gb102,2,none⟩ = some (.slice A1_2 l1_2.length c1_2):=(blk_cell BK102.out 2).trans rfl;have hfz22_0:=blk_frozen BK102.out 0;have hfz22_1:=blk_frozen BK102.out 1;have hfz22_2:=blk_frozen BK102.out 2)|((with_reducible refine gate_callee (f:=61) rfl ?_);refine goesL_ (some 10) rfl rfl Tryd.func61 (by kernel_rfl) rfl #[.agg #[.int .i64 a0_0,.slice A0_1 l0_1.length c0_1,.slice A0_2 l0_2.length c0_2,.slice A0_3 l0_3.length c0_3,.slice A0_4 l0_4.length c0_4,.slice A0_5 l0_5.length c0_5],.agg #[.int .i64 a1_0,.slice A1_1 l1_1.length c1_1,.slice A1_2 l1_2.length c1_2]] rfl (by (try simp only [List.map_toArray,List.map_cons,List.map_nil]);first|done|rfl|(simp only [List.length_drop,List.length_take];rfl)) ?_;(with_reducible refine (norm_Fits.calls a0_0 _ _ l0_1 _ _ l0_2 _ _ l0_3 _ _ l0_4 _ _ l0_5 a1_0 _ _ l1_1 _ _ l1_2 false _ ?side1 ?side2 ?side3 ?side4 ?side5 ?side6 ?side7 ?side8 ?side9 ?side10 ?side11 ?side12 ?side13 ?side14 A3.out).mono ?_);(case side1 => repeat (first|exact (Kd.C_below HR0_1.out HB.out)|(with_reducible refine Kd.C_alloc ?_ _)|(with_reducible refine Kd.C_drewN ?_ _)|(with_reducible refine Kd.C_drew ?_)));(case side2 => exact HC0_1.out);(case side3 => repeat (first|exact (Kd.C_below HR0_2.out HB.out)|(with_reducible refine Kd.C_alloc ?_ _)|(with_reducible refine Kd.C_drewN ?_ _)|(with_reducible refine Kd.C_drew ?_)));(case side4 => exact HC0_2.out);(case side5 => repeat (first|exact (Kd.C_below HR0_3.out HB.out)|(with_reducible refine Kd.C_alloc ?_ _)|(with_reducible refine Kd.C_drewN ?_ _)|(with_reducible refine Kd.C_drew ?_)));(case side6 => exact HC0_3.out);(case side7 => repeat (first|exact (Kd.C_below HR0_4.out HB.out)|(with_reducible refine Kd.C_alloc ?_ _)|(with_reducible refine Kd.C_drewN ?_ _)|(with_reducible refine Kd.C_drew ?_)));(case side8 => exact HC0_4.out);(case side9 => repeat (first|exact (Kd.C_below HR0_5.out HB.out)|(with_reducible refine Kd.C_alloc ?_ _)|(with_reducible refine Kd.C_drewN ?_ _)|(with_reducible refine Kd.C_drew ?_)));(case side10 => exact HC0_5.out);(case side11 => repeat (first|exact (Kd.C_below HR1_1.out HB.out)|(with_reducible refine Kd.C_alloc ?_ _)|(with_reducible refine Kd.C_drewN ?_ _)|(with_reducible refine Kd.C_drew ?_)));(case side12 => exact HC1_1.out);(case side13 => repeat (first|exact (Kd.C_below HR1_2.out HB.out)|(with_reducible refine Kd.C_alloc ?_ _)|(with_reducible refine Kd.C_drewN ?_ _)|(with_reducible refine Kd.C_drew ?_)));(case side14 => exact HC1_2.out);rintro e w23 ⟨rfl,hb⟩;refine ⟨_,rfl,?_⟩;have n0_:=Aside0.mk (blk_below (g:=gb101) (o:=.cells #[.int .i64 a0_0,.slice A0_1 l0_1.length c0_1,.slice A0_2 l0_2.length c0_2,.slice A0_3 l0_3.length c0_3,.slice A0_4 l0_4.length c0_4,.slice A0_5 l0_5.length c0_5] 26 (0,0)) (by (with_reducible repeat (first|refine blk_drewN ?_ _|refine blk_drew ?_|refine blk_alloc ?_ _));exact BK101.out) hb);have n1_:=Aside0.mk (blk_below (g:=gb102) (o:=.cells #[.int .i64 a1_0,.slice A1_1 l1_1.length c1_1,.slice A1_2 l1_2.length c1_2] 30 (0,0)) (by (with_reducible repeat (first|refine blk_drewN ?_ _|refine blk_drew ?_|refine blk_alloc ?_ _));exact BK102.out) hb);have n2_:=Aside0.mk (below_step (by repeat (first|(with_reducible first|exact HB.out|apply below_alloc|apply pw_below_drewN|apply below_drew1|refine below_set ?_ GE101.out|refine below_set ?_ GE102.out)|exact HB.out)) hb);clear BK101;clear BK102;clear HB;have BK101:=n0_;have BK102:=n1_;have HB:=n2_;clear n0_ n1_ n2_;(try clear hb);(try clear hb2);(try clear hk);(try clear hi)))
  go_ret2
  exact ⟨by first|rfl|(simp [errW_none,errW_some] <;> rfl)|(simp [*,errW_none,errW_some] <;> rfl),by repeat (first|(with_reducible first|exact HB.out|apply below_alloc|apply pw_below_drewN|apply below_drew1|refine below_set ?_ GE101.out|refine below_set ?_ GE102.out)|exact HB.out)⟩

end Go.Proofs.YthpnooookkpkaaaDoor.F
/-! What the law of a sure trace meets, in plain words. -/
namespace Go.Proofs.YthpnooookkpkaaaDoor.F
open Go.RowKit Go.Proofs.YthpnooookkpkaaaDoorW.PrintWords
theorem RefL.bit {l m : List Int} (h : RefL l m) : ∀ x ∈ m, x = 0 ∨ x = 1 := by
  intro x hx
  obtain ⟨i, hi, rfl⟩ := List.getElem_of_mem hx
  have := (h.2 i (by rw [h.1]; exact hi)).1
  unfold at0 at this
  rw [List.getD_eq_getElem?_getD, List.getElem?_eq_getElem hi] at this
  exact this
theorem zeroed_bit {l : List Int} (h : ∀ x ∈ l, x = 0 ∨ x = 1) : zeroed l = l := by
  unfold zeroed
  conv => rhs; rw [← List.map_id l]
  apply List.map_congr_left
  intro x hx
  rw [if_neg (by rcases h x hx with rfl | rfl <;> decide)]
  rfl
theorem u8_bit {l : List Int} (h : ∀ x ∈ l, x = 0 ∨ x = 1) : u8B l = true := by
  unfold u8B
  rw [List.all_eq_true]
  intro x hx
  rcases h x hx with rfl | rfl <;> decide
theorem RefLL.mem {F C : List (List Int)} (h : RefLL F C) : ∀ m ∈ C, ∃ l ∈ F, RefL l m := by
  intro m hm
  obtain ⟨i, hi, rfl⟩ := List.getElem_of_mem hm
  have hf : i < F.length := by rw [h.1]; exact hi
  exact ⟨F[i], List.getElem_mem hf, h.2 i hf hi⟩
theorem vals_bit {m : List Int} {n : Int} (h : ∀ x ∈ m, x = 0 ∨ x = 1) (hl : (m.length : Int) = n) : valsB m n = true := by
  unfold valsB
  rw [decide_eq_true hl, Bool.true_and, List.all_eq_true]
  intro x hx
  rcases h x hx with rfl | rfl <;> decide
section
variable {n : Int} {L : List S71} {G : List S84} {O B K : List Int} {b : Int} {I I' : List Int} {F C : List (List Int)}
theorem fits_ref (hwf : (pc n L G O B K).wf) (hu : twB I F = true) (h : fitsB (pc n L G O B K) (pt b I F) = true) (hI : RefL I I') (hC : RefLL F C) : fitsB (pc n L G O B K) (pt b I' C) = true := by
  have hfit := Fit.of (c := pc n L G O B K) (t := pt b I F) hwf hu h
  have hbI := hI.bit
  obtain ⟨_, _, _, _, _, hvI, hvF⟩ := fitsB_iff h
  have hvI : valsB I (L.length : Int) = true := hvI
  have hvF : ∀ l ∈ F, valsB l n = true := hvF
  unfold fitsB at h ⊢
  simp only [Bool.and_eq_true] at h ⊢
  obtain ⟨⟨⟨⟨⟨⟨⟨h1, h2⟩, h3⟩, h4⟩, h5⟩, h6⟩, h7⟩, h8⟩ := h
  have hlen : (I'.length : Int) = (L.length : Int) := by
    rw [← hI.1]
    exact Int.ofNat_inj.mpr hfit.init
  have e4 : decide ((pt b I' C).F.length ≠ 0) = true := by
    show decide (C.length ≠ 0) = true
    rw [← hC.1]
    exact h4
  have e5 : decide ((pt b I' C).F.length ≤ 256) = true := by
    show decide (C.length ≤ 256) = true
    rw [← hC.1]
    exact h5
  refine ⟨⟨⟨⟨⟨⟨⟨h1, h2⟩, h3⟩, e4⟩, e5⟩, vals_bit hbI hlen⟩, ?_⟩, ?_⟩
  · rw [List.all_eq_true] at h7 ⊢
    intro i hi
    have hiL : i < L.length := List.mem_range.mp hi
    have h7 := h7 i hi
    rw [Bool.or_eq_true, decide_eq_true_iff, decide_eq_true_iff] at h7 ⊢
    rcases h7 with h7 | h7
    · exact Or.inl h7
    · have hr := hI.2 i (by rw [show I.length = L.length from hfit.init]; exact hiL)
      rw [← rd_at0, ← rd_at0] at hr
      have h7 : (rd_T71 L (i : Int)).f1 = rd I (i : Int) := h7
      rcases hr.2 with e | e
      · exact Or.inl (h7.trans e)
      · exact Or.inr (h7.trans e)
  · rw [List.all_eq_true]
    intro m hm
    obtain ⟨l, hl, hlm⟩ := hC.mem m hm
    have hv := hvF l hl
    unfold valsB at hv
    rw [Bool.and_eq_true, decide_eq_true_iff] at hv
    exact vals_bit hlm.bit (by rw [← hlm.1]; exact hv.1)
theorem lits_of (hwf : (pc n L G O B K).wf) (hm : mayB (pc n L G O B K) = true) : Lits n.toNat L G := by
  obtain ⟨m1, m2, m3, _, _, m6, m7⟩ := mayB_iff hm
  have m1 : 0 ≤ n := m1
  have m6 : ∀ x ∈ L, x.f0 / 2 ≤ n + L.length + G.length := m6
  have m7 : ∀ i < G.length, (rd_T84 G i).f0 / 2 < n + L.length + 1 + i ∧ (rd_T84 G i).f1 ≤ (rd_T84 G i).f0 := m7
  refine ⟨fun i h => ?_, fun x hx => ?_⟩
  · have a := m7 i h
    rw [rd84_get h] at a
    have g := hwf.gates _ (List.getElem_mem h)
    omega
  · have a := m6 x hx
    omega
theorem gatesF_zero (gs : List S84) : ∀ vars : List Int, 0 < vars.length → at0 (gatesF vars gs) 0 = at0 vars 0 := by
  induction gs with
  | nil => intro vars _; rfl
  | cons g gs ih =>
    intro vars hv
    show at0 (gatesF (vars ++ _) gs) 0 = _
    rw [ih _ (by rw [List.length_append]; omega), at0_app, if_pos hv]
theorem framesF_zero (L : List S71) (G : List S84) : ∀ (F : List (List Int)) (s : List Int), ∀ v ∈ framesF L G s F, at0 v 0 = 0 := by
  intro F
  induction F with
  | nil => intro s v hv; cases hv
  | cons i F ih =>
    intro s v hv
    rcases List.mem_cons.mp hv with rfl | hv
    · unfold frameF
      rw [gatesF_zero _ _ (by simp)]
      rfl
    · exact ih _ v hv
/-- what a sure trace's law meets where the trace fits -/
theorem sure_facts (hw : wfB n L G O B K = true) (hu : twB I F = true) (h : fitsB (pc n L G O B K) (pt b I F) = true) (bits : List Bool) :
    ∃ I' C k v v' l m, sim_Surely.f n L G O B K b I F = some (v, 0) ∧ inquestlaw07_filled.f k b I F bits = some (b, I', C) ∧ sim_Fails.f n L G O B K b I' C = some (v' == 1, 0) ∧ Ref v v' ∧
      sim_Run.f n L G O B K b I F = some (l, 0) ∧ sim_Run.f n L G O B K b I' C = some (m, 0) ∧ RefLL l m ∧ l.length = F.length ∧ ∀ r ∈ l, (r.length : Int) = n + L.length + G.length + 1 ∧ at0 r 0 = 0 := by
  have hwf : (pc n L G O B K).wf := wf_of_wfB (c := pc n L G O B K) hw
  have hfit := Fit.of (c := pc n L G O B K) (t := pt b I F) hwf hu h
  obtain ⟨h1, h2, h3, h4, h5, h6, h7⟩ := fitsB_iff h
  obtain ⟨m1, m2, m3, mB, mK, m6, m7⟩ := mayB_iff h1
  have m1 : 0 ≤ n := m1
  have m2 : n ≤ 16384 := m2
  have hn : ((n.toNat : Nat) : Int) = n := Int.toNat_of_nonneg m1
  have li : I.length = L.length := hfit.init
  have lm := hfit.many
  have lm2 : L.length + G.length ≤ 16384 := lm.2
  have hin : ∀ l ∈ F, (l.length : Int) = n := hfit.inputs
  have hl1 : ∀ l ∈ F, l.length = n.toNat := fun l hl => by have := hin l hl; omega
  have hFl : F.length ≤ 256 := h5
  obtain ⟨I', C, k, rI, rC, hfl⟩ := filled_f b I F bits hfit.initV (by omega) hfit.inputsV (fun l hl => by have := hin l hl; omega) (by omega)
  have hfit2 := fits_ref hwf hu h rI rC
  have hL := lits_of hwf h1
  have hbI := rI.bit
  have hbC : ∀ m ∈ C, ∀ x ∈ m, x = 0 ∨ x = 1 := fun m hm => by
    obtain ⟨l, _, hlm⟩ := rC.mem m hm
    exact hlm.bit
  have hu2 : twB I' C = true := by
    unfold twB
    rw [u8_bit hbI, Bool.true_and, List.all_eq_true]
    exact fun m hm => u8_bit (hbC m hm)
  have hC1 : ∀ m ∈ C, m.length ≤ 16384 := fun m hm => by
    obtain ⟨l, hl, hlm⟩ := rC.mem m hm
    have := hlm.1
    have := hl1 l hl
    omega
  have hsh : shortB I' C = true := by
    unfold shortB
    have a1 : I'.length ≤ 1000000000000 := by rw [← rI.1]; omega
    have a2 : C.length ≤ 1000000000 := by rw [← rC.1]; omega
    rw [decide_eq_true a1, decide_eq_true a2, Bool.true_and, Bool.true_and, List.all_eq_true]
    exact fun m hm => decide_eq_true (by have := hC1 m hm; omega)
  have hz1 : zeroed I' = I' := zeroed_bit hbI
  have hz2 : C.map zeroed = C := by
    conv => rhs; rw [← List.map_id C]
    apply List.map_congr_left
    intro m hm
    exact zeroed_bit (hbC m hm)
  have fr := RefLL.frames hL rC rI li hl1
  have hbadB : rd B b ∈ B := by
    have h2 : 0 ≤ b := h2
    have h3 : b < (B.length : Int) := h3
    obtain ⟨j, rfl⟩ := Int.eq_ofNat_of_zero_le h2
    have hj : j < B.length := by omega
    rw [rd_get hj]
    exact List.getElem_mem hj
  have mB : ∀ x ∈ B, x / 2 ≤ n + L.length + G.length := mB
  have mK : ∀ x ∈ K, x / 2 ≤ n + L.length + G.length := mK
  have sr := surelyF_ref hL (K := K) (bad := rd B b) (fun x hx => by have := mK x hx; omega) (by have := mB _ hbadB; omega) rC rI li hl1
  refine ⟨I', C, k, surelyF L G K (rd B b) I F, surelyF L G K (rd B b) I' C, framesF L G I F, framesF L G I' C, ?_, hfl, ?_, sr, ?_, ?_, fr.1, framesF_len L G F I, fun r hr => ⟨?_, framesF_zero L G F I r hr⟩⟩
  · unfold sim_Surely.f
    rw [hw, hu, Bool.and_self, if_pos rfl, h, if_pos rfl]
  · unfold sim_Fails.f norm_Fits.f sim_Read.f sim_Surely.f
    rw [if_pos hw, hfit2, Option.bind_some, if_pos rfl, hsh, hu2, Bool.and_self, if_pos rfl, Option.bind_some, hz1, hz2]
    show Option.bind (if (wfB n L G O B K && twB I' C) = true then (if fitsB (pc n L G O B K) (pt b I' C) = true then some (surelyF L G K (rd B b) I' C, (0 : Int)) else some (0, 2)) else none) _ = _
    rw [hw, hu2, Bool.and_self, if_pos rfl, hfit2, if_pos rfl]
    rfl
  · unfold sim_Run.f
    rw [hw, hu, Bool.and_self, if_pos rfl, h, if_pos rfl]
  · unfold sim_Run.f
    rw [hw, hu2, Bool.and_self, if_pos rfl, hfit2, if_pos rfl]
  · have := fr.2 r hr
    omega
end
end Go.Proofs.YthpnooookkpkaaaDoor.F
namespace Go.Proofs.YthpnooookkpkaaaDoor.F
open Go.Shelf Go.RowKit Go.Proofs.YthpnooookkpkaaaDoorW.PrintWords Go.Proofs.YthpnooookkpkaaaDoorW.PrintLast Go.Proofs.YthpnooookkpkaaaDoorW.PrintMore
theorem rowC {W : World} {g : Nat} (xs : List Int) (hb : W.heap[g]? = some (.cells (xs.map (Value.int .u8)).toArray 5 (0, 0))) (hm : xs.length ≤ 1000) : Kd.C (Kd.int .u8) W (some ⟨g, 0, none⟩) xs.length xs := by
  refine ⟨rfl, by omega, fun _ => ⟨_, rfl, fun j p hj => ⟨[.int .u8 p], rfl, rfl, fun i u hu => ?_⟩⟩⟩
  obtain rfl : i = 0 := by
    have := (List.getElem?_eq_some_iff.mp hu).1
    simpa using this
  obtain rfl := Option.some.inj hu
  rw [show (Kd.int .u8).sz = 1 from rfl, Nat.mul_one, Nat.add_zero, add_plain, blk_cell hb]
  simp [hj]
theorem tabC {W : World} {g1 g2 g3 : Nat} (x y : List Int) (h1 : W.heap[g1]? = some (.cells (x.map (Value.int .u8)).toArray 5 (0, 0))) (h2 : W.heap[g2]? = some (.cells (y.map (Value.int .u8)).toArray 5 (0, 0)))
    (h3 : W.heap[g3]? = some (.cells #[.slice (some ⟨g1, 0, none⟩) x.length x.length, .slice (some ⟨g2, 0, none⟩) y.length y.length] 27 (0, 0))) (hx : x.length ≤ 1000) (hy : y.length ≤ 1000) : Kd.C (Kd.slice 5 (Kd.int .u8)) W (some ⟨g3, 0, none⟩) 2 [x, y] := by
  refine ⟨rfl, by omega, fun _ => ⟨_, rfl, fun j p hj => ?_⟩⟩
  match j with
  | 0 =>
    obtain rfl := Option.some.inj hj
    refine ⟨[.slice (some ⟨g1, 0, none⟩) x.length x.length], rfl, ⟨_, _, rfl, Nat.le_refl _, rowC x h1 hx⟩, fun i u hu => ?_⟩
    obtain rfl : i = 0 := by
      have := (List.getElem?_eq_some_iff.mp hu).1
      simpa using this
    obtain rfl := Option.some.inj hu
    exact (blk_cell h3 0).trans rfl
  | 1 =>
    obtain rfl := Option.some.inj hj
    refine ⟨[.slice (some ⟨g2, 0, none⟩) y.length y.length], rfl, ⟨_, _, rfl, Nat.le_refl _, rowC y h2 hy⟩, fun i u hu => ?_⟩
    obtain rfl : i = 0 := by
      have := (List.getElem?_eq_some_iff.mp hu).1
      simpa using this
    obtain rfl := Option.some.inj hu
    exact (blk_cell h3 1).trans rfl
  | j + 2 => simp at hj
theorem oneK (w : World) : Calls Tryd.prog 59 #[] w fun e w' => ∃ B1 B2 B3 B4 B5 d1 d2 d3 d4 d5, e = .returned (.agg #[.int .i64 1, .slice B1 1 d1, .slice B2 0 d2, .slice B3 0 d3, .slice B4 1 d4, .slice B5 0 d5]) ∧ Circ.ok ⟨1, B1, d1, [⟨2, 2⟩], B2, d2, [], B3, d3, [], B4, d4, [4], B5, d5, []⟩ w' ∧ Below w.heap.size w w' := by
  refine (inquestlaw07_one.calls _ _ _ _ _ _ w rfl).mono ?_
  rintro e w1 ⟨x1, x2, x3, x4, x5, rfl, g1, g2, g3, g4, g5, hb⟩
  obtain ⟨B1, d1, rfl, l1, h1⟩ := Kd.R_reads g1
  obtain ⟨B2, d2, rfl, l2, h2⟩ := Kd.R_reads g2
  obtain ⟨B3, d3, rfl, l3, h3⟩ := Kd.R_reads g3
  obtain ⟨B4, d4, rfl, l4, h4⟩ := Kd.R_reads g4
  obtain ⟨B5, d5, rfl, l5, h5⟩ := Kd.R_reads g5
  exact ⟨B1, B2, B3, B4, B5, d1, d2, d3, d4, d5, rfl, ⟨h1, l1, h2, l2, h3, l3, h4, l4, h5, l5⟩, hb⟩
theorem traceK (a b c : Int) (w : World) : Calls Tryd.prog 60 #[.int .u8 a, .int .u8 b, .int .u8 c] w fun e w' => ∃ B1 B2 d1 d2, e = .returned (.agg #[.int .i64 0, .slice B1 1 d1, .slice B2 2 d2]) ∧ Trc.ok ⟨0, B1, d1, [a], B2, d2, [[b], [c]]⟩ w' ∧ Below w.heap.size w w' := by
  refine (inquestlaw07_trace.calls a b c _ _ _ w rfl).mono ?_
  rintro e w1 ⟨x1, x2, rfl, g1, g2, hb⟩
  obtain ⟨B1, d1, rfl, l1, h1⟩ := Kd.R_reads g1
  obtain ⟨B2, d2, rfl⟩ := Kd.V_slice (Kd.N_V (base' := 0) g2)
  obtain ⟨_, l2, h2⟩ := Kd.V_reads' (Kd.N_V (base' := 0) g2)
  exact ⟨B1, B2, d1, d2, rfl, ⟨h1, l1, h2, l2⟩, hb⟩
theorem surK {B1 B2 B3 B4 B5 D1 D2 : Option Addr} {d1 d2 d3 d4 d5 e1 e2 : Nat} {a b c : Int} {W : World} (hc : Circ.ok ⟨1, B1, d1, [⟨2, 2⟩], B2, d2, [], B3, d3, [], B4, d4, [4], B5, d5, []⟩ W) (ht : Trc.ok ⟨0, D1, e1, [a], D2, e2, [[b], [c]]⟩ W) {v : Int} (h : sim_Surely.f 1 [⟨2, 2⟩] [] [] [4] [] 0 [a] [[b], [c]] = some (v, 0)) :
    Calls Tryd.prog 15 #[.agg #[.int .i64 1, .slice B1 1 d1, .slice B2 0 d2, .slice B3 0 d3, .slice B4 1 d4, .slice B5 0 d5], .agg #[.int .i64 0, .slice D1 1 e1, .slice D2 2 e2]] W fun e w' => e = .returned (.tuple #[.int .u8 v, .int .i64 0]) ∧ Below W.heap.size W w' := sim_Surely.calls 1 B1 d1 [⟨2, 2⟩] B2 d2 [] B3 d3 [] B4 d4 [4] B5 d5 [] 0 D1 e1 [a] D2 e2 [[b], [c]] v 0 W hc.r1 hc.h1 hc.r2 hc.h2 hc.r3 hc.h3 hc.r4 hc.h4 hc.r5 hc.h5 ht.r1 ht.h1 ht.r2 ht.h2 h
theorem failK {B1 B2 B3 B4 B5 D1 D2 : Option Addr} {d1 d2 d3 d4 d5 e1 e2 : Nat} {a b c : Int} {W : World} (hc : Circ.ok ⟨1, B1, d1, [⟨2, 2⟩], B2, d2, [], B3, d3, [], B4, d4, [4], B5, d5, []⟩ W) (ht : Trc.ok ⟨0, D1, e1, [a], D2, e2, [[b], [c]]⟩ W) {v : Bool} (h : sim_Fails.f 1 [⟨2, 2⟩] [] [] [4] [] 0 [a] [[b], [c]] = some (v, 0)) :
    Calls Tryd.prog 18 #[.agg #[.int .i64 1, .slice B1 1 d1, .slice B2 0 d2, .slice B3 0 d3, .slice B4 1 d4, .slice B5 0 d5], .agg #[.int .i64 0, .slice D1 1 e1, .slice D2 2 e2]] W fun e w' => e = .returned (.tuple #[.bool v, .int .i64 0]) ∧ Below W.heap.size W w' := sim_Fails.calls 1 B1 d1 [⟨2, 2⟩] B2 d2 [] B3 d3 [] B4 d4 [4] B5 d5 [] 0 D1 e1 [a] D2 e2 [[b], [c]] v 0 W hc.r1 hc.h1 hc.r2 hc.h2 hc.r3 hc.h3 hc.r4 hc.h4 hc.r5 hc.h5 ht.r1 ht.h1 ht.r2 ht.h2 h
theorem runK {B1 B2 B3 B4 B5 D1 D2 : Option Addr} {d1 d2 d3 d4 d5 e1 e2 : Nat} {a b c : Int} {W : World} (hc : Circ.ok ⟨1, B1, d1, [⟨2, 2⟩], B2, d2, [], B3, d3, [], B4, d4, [4], B5, d5, []⟩ W) (ht : Trc.ok ⟨0, D1, e1, [a], D2, e2, [[b], [c]]⟩ W) {l : List (List Int)} (h : sim_Run.f 1 [⟨2, 2⟩] [] [] [4] [] 0 [a] [[b], [c]] = some (l, 0)) :
    Calls Tryd.prog 19 #[.agg #[.int .i64 1, .slice B1 1 d1, .slice B2 0 d2, .slice B3 0 d3, .slice B4 1 d4, .slice B5 0 d5], .agg #[.int .i64 0, .slice D1 1 e1, .slice D2 2 e2]] W fun e w' => ∃ A c, e = .returned (.tuple #[.slice A l.length c, .int .i64 0]) ∧ l.length ≤ c ∧ Kd.C (Kd.slice 5 (Kd.int .u8)) w' A l.length l ∧ Below W.heap.size W w' := by
  refine (sim_Run.calls 1 B1 d1 [⟨2, 2⟩] B2 d2 [] B3 d3 [] B4 d4 [4] B5 d5 [] 0 D1 e1 [a] D2 e2 [[b], [c]] l 0 W hc.r1 hc.h1 hc.r2 hc.h2 hc.r3 hc.h3 hc.r4 hc.h4 hc.r5 hc.h5 ht.r1 ht.h1 ht.r2 ht.h2 h).mono ?_
  rintro e w' ⟨v, rfl, hS, hb⟩
  obtain ⟨A, c, rfl, hl, hC⟩ := Kd.R_reads (Kd.S_R hS)
  exact ⟨A, c, rfl, hl, hC, hb⟩
set_option maxRecDepth 100000 in
set_option maxHeartbeats 4000000 in
theorem lives07_c (w : World) : Calls Tryd.prog 14 #[] w fun e w' => e = .returned (.bool true) ∧ Below w.heap.size w w' := by
  go_enter Tryd.func14, Tryd.ntmps14
  go_wp2_with fail
  refine (oneK _).mono ?_
  rintro e u0 ⟨B1_0, B2_0, B3_0, B4_0, B5_0, d1_0, d2_0, d3_0, d4_0, d5_0, rfl, hc, hb⟩
  have HC := Aside0.mk hc
  have HBu := Aside0.mk (below_step (Below.refl _ w) hb)
  clear hc hb
  go_wp2_with fail
  refine (traceK 0 1 2 _).mono ?_
  rintro e t0 ⟨D1_0, D2_0, e1_0, e2_0, rfl, ht, hb⟩
  have HT := Aside0.mk ht
  have HC2 := Aside0.mk (HC.out.below hb)
  have HBt := Aside0.mk (below_step HBu.out hb)
  clear ht hb HC HBu
  go_wp2_with fail
  refine (runK HC2.out HT.out (l := [[0, 1, 0], [0, 2, 1]]) (by rfl)).mono ?_
  rintro e s0 ⟨RA, rc, rfl, hrl, hrc, hb⟩
  have HRC := Aside0.mk hrc
  have HRL := Aside0.mk hrl
  have HB0 := Aside0.mk (below_step HBt.out hb)
  clear hrc hrl hb HC2 HT HBt
  go_wp2_with fail
  refine (oneK _).mono ?_
  rintro e u1 ⟨B1_1, B2_1, B3_1, B4_1, B5_1, d1_1, d2_1, d3_1, d4_1, d5_1, rfl, hc, hb⟩
  have HC := Aside0.mk hc
  have HBu := Aside0.mk (below_step HB0.out hb)
  have HRC := Aside0.mk (Kd.C_below HRC.out hb)
  clear hc hb
  go_wp2_with fail
  refine (traceK 0 1 2 _).mono ?_
  rintro e t1 ⟨D1_1, D2_1, e1_1, e2_1, rfl, ht, hb⟩
  have HT := Aside0.mk ht
  have HC2 := Aside0.mk (HC.out.below hb)
  have HBt := Aside0.mk (below_step HBu.out hb)
  have HRC := Aside0.mk (Kd.C_below HRC.out hb)
  clear ht hb HC HBu
  go_wp2_with fail
  refine (failK HC2.out HT.out (v := true) (by rfl)).mono ?_
  rintro e s1 ⟨rfl, hb⟩
  have HRC := Aside0.mk (Kd.C_below HRC.out hb)
  have HB1 := Aside0.mk (below_step HBt.out hb)
  clear hb HC2 HT HBt HB0
  go_wp2_with fail
  refine (oneK _).mono ?_
  rintro e u2 ⟨B1_2, B2_2, B3_2, B4_2, B5_2, d1_2, d2_2, d3_2, d4_2, d5_2, rfl, hc, hb⟩
  have HC := Aside0.mk hc
  have HBu := Aside0.mk (below_step HB1.out hb)
  have HRC := Aside0.mk (Kd.C_below HRC.out hb)
  clear hc hb
  go_wp2_with fail
  refine (traceK 0 1 2 _).mono ?_
  rintro e t2 ⟨D1_2, D2_2, e1_2, e2_2, rfl, ht, hb⟩
  have HT := Aside0.mk ht
  have HC2 := Aside0.mk (HC.out.below hb)
  have HBt := Aside0.mk (below_step HBu.out hb)
  have HRC := Aside0.mk (Kd.C_below HRC.out hb)
  clear ht hb HC HBu
  go_wp2_with fail
  refine (surK HC2.out HT.out (v := 1) (by rfl)).mono ?_
  rintro e s2 ⟨rfl, hb⟩
  have HRC := Aside0.mk (Kd.C_below HRC.out hb)
  have HB2 := Aside0.mk (below_step HBt.out hb)
  clear hb HC2 HT HBt HB1
  go_wp2_with fail
  refine (oneK _).mono ?_
  rintro e u3 ⟨B1_3, B2_3, B3_3, B4_3, B5_3, d1_3, d2_3, d3_3, d4_3, d5_3, rfl, hc, hb⟩
  have HC := Aside0.mk hc
  have HBu := Aside0.mk (below_step HB2.out hb)
  have HRC := Aside0.mk (Kd.C_below HRC.out hb)
  clear hc hb
  go_wp2_with fail
  refine (traceK 2 0 0 _).mono ?_
  rintro e t3 ⟨D1_3, D2_3, e1_3, e2_3, rfl, ht, hb⟩
  have HT := Aside0.mk ht
  have HC2 := Aside0.mk (HC.out.below hb)
  have HBt := Aside0.mk (below_step HBu.out hb)
  have HRC := Aside0.mk (Kd.C_below HRC.out hb)
  clear ht hb HC HBu
  go_wp2_with fail
  refine (surK HC2.out HT.out (v := 0) (by rfl)).mono ?_
  rintro e s3 ⟨rfl, hb⟩
  have HRC := Aside0.mk (Kd.C_below HRC.out hb)
  have HB3 := Aside0.mk (below_step HBt.out hb)
  clear hb HC2 HT HBt HB2
  go_wp2_with fail
  refine (oneK _).mono ?_
  rintro e u4 ⟨B1_4, B2_4, B3_4, B4_4, B5_4, d1_4, d2_4, d3_4, d4_4, d5_4, rfl, hc, hb⟩
  have HC := Aside0.mk hc
  have HBu := Aside0.mk (below_step HB3.out hb)
  have HRC := Aside0.mk (Kd.C_below HRC.out hb)
  clear hc hb
  go_wp2_with fail
  refine (traceK 2 2 2 _).mono ?_
  rintro e t4 ⟨D1_4, D2_4, e1_4, e2_4, rfl, ht, hb⟩
  have HT := Aside0.mk ht
  have HC2 := Aside0.mk (HC.out.below hb)
  have HBt := Aside0.mk (below_step HBu.out hb)
  have HRC := Aside0.mk (Kd.C_below HRC.out hb)
  clear ht hb HC HBu
  go_wp2_with fail
  refine (surK HC2.out HT.out (v := 2) (by rfl)).mono ?_
  rintro e s4 ⟨rfl, hb⟩
  have HRC := Aside0.mk (Kd.C_below HRC.out hb)
  have HB4 := Aside0.mk (below_step HBt.out hb)
  clear hb HC2 HT HBt HB3
  go_wp2_with fail
  obtain ⟨m1, m2, m3⟩ := blks3 s4 (.cells #[.int .u8 0, .int .u8 1, .int .u8 0] 5) (.cells #[.int .u8 0, .int .u8 2, .int .u8 1] 5) (.cells #[.slice (some ⟨s4.heap.size, 0, none⟩) 3 3, .slice (some ⟨s4.heap.size + 1, 0, none⟩) 3 3] 27)
  have hbl : Below s4.heap.size s4 (((s4.alloc (.cells #[.int .u8 0, .int .u8 1, .int .u8 0] 5)).alloc (.cells #[.int .u8 0, .int .u8 2, .int .u8 1] 5)).alloc (.cells #[.slice (some ⟨s4.heap.size, 0, none⟩) 3 3, .slice (some ⟨s4.heap.size + 1, 0, none⟩) 3 3] 27)) := below_alloc (below_alloc (below_alloc (Below.refl _ _) _) _) _
  have hB5 := below_step HB4.out hbl
  have hLC := tabC [0, 1, 0] [0, 2, 1] m1 m2 m3 (by decide) (by decide)
  have hRC := Kd.C_below HRC.out hbl
  generalize ((s4.alloc (Obj.cells #[Value.int .u8 0, Value.int .u8 1, Value.int .u8 0] 5)).alloc (Obj.cells #[Value.int .u8 0, Value.int .u8 2, Value.int .u8 1] 5)).alloc (Obj.cells #[Value.slice (some ⟨s4.heap.size, 0, none⟩) 3 3, Value.slice (some ⟨s4.heap.size + 1, 0, none⟩) 3 3] 27) = s5 at hB5 hLC hRC ⊢
  refine (inquestref00_Tables.calls 12 _ RA rc [[0, 1, 0], [0, 2, 1]] _ (some ⟨s4.heap.size + 1 + 1, 0, none⟩) 2 [[0, 1, 0], [0, 2, 1]] true s5 (Kd.V_mk HRL.out (Kd.C_F (Kd.heap_slice 5 (Kd.heap_int _)) hRC)) (Kd.V_mk (Nat.le_refl _) (Kd.C_F (Kd.heap_slice 5 (Kd.heap_int _)) hLC)) (by kernel_rfl)).mono ?_
  rintro e s6 ⟨rfl, hb⟩
  have HB6 := Aside0.mk (below_step hB5 hb)
  clear hb hB5 hLC hRC m1 m2 m3 hbl
  go_wp2_with fail
  go_ret
  exact ⟨rfl, HB6.out⟩
end Go.Proofs.YthpnooookkpkaaaDoor.F
namespace Go.Proofs.YthpnooookkpkaaaDoor.F
open Go.RowKit Go.Proofs.YthpnooookkpkaaaDoorW.PrintWords
def inquestlaw07_lives.f : Option (Bool) := some true
theorem inquestlaw07_lives.calls (r : Bool) (w : World) (h : inquestlaw07_lives.f = some r) :
    Calls Tryd.prog 14 #[] w fun e w' => e = .returned (.bool r) ∧ Below w.heap.size w w' := by
  obtain rfl : true = r := Option.some.inj h
  exact lives07_c w
end Go.Proofs.YthpnooookkpkaaaDoor.F
/-! Calls of functions over circuits and traces, told by the circuit and the trace as they lie. -/
namespace Go.Proofs.YthpnooookkpkaaaDoor.F
open Go.Shelf Go.RowKit Go.Proofs.YthpnooookkpkaaaDoorW.PrintWords Go.Proofs.YthpnooookkpkaaaDoorW.PrintLast Go.Proofs.YthpnooookkpkaaaDoorW.PrintMore
section
variable (c : Circ) (t : Trc) {w : World} (hc : c.ok w) (ht : t.ok w)
include hc ht
theorem great_k {r : Bool} (h : inquestlaw07_great.f c.n c.L c.G c.O c.B c.K t.bad t.I t.F = some r) : Calls Tryd.prog 13 #[c.val, t.val] w fun e w' => e = .returned (.bool r) ∧ Below w.heap.size w w' :=
  inquestlaw07_great.calls c.n c.A1 c.c1 c.L c.A2 c.c2 c.G c.A3 c.c3 c.O c.A4 c.c4 c.B c.A5 c.c5 c.K t.bad t.A1 t.c1 t.I t.A2 t.c2 t.F r w hc.r1 hc.h1 hc.r2 hc.h2 hc.r3 hc.h3 hc.r4 hc.h4 hc.r5 hc.h5 ht.r1 ht.h1 ht.r2 ht.h2 h
theorem surely_k {v e0 : Int} (h : sim_Surely.f c.n c.L c.G c.O c.B c.K t.bad t.I t.F = some (v, e0)) : Calls Tryd.prog 15 #[c.val, t.val] w fun e w' => e = .returned (.tuple #[.int .u8 v, .int .i64 e0]) ∧ Below w.heap.size w w' :=
  sim_Surely.calls c.n c.A1 c.c1 c.L c.A2 c.c2 c.G c.A3 c.c3 c.O c.A4 c.c4 c.B c.A5 c.c5 c.K t.bad t.A1 t.c1 t.I t.A2 t.c2 t.F v e0 w hc.r1 hc.h1 hc.r2 hc.h2 hc.r3 hc.h3 hc.r4 hc.h4 hc.r5 hc.h5 ht.r1 ht.h1 ht.r2 ht.h2 h
theorem fits_k {r : Bool} (k : Nat) (h : inquestref03_Fits.f k c.n c.L c.G c.O c.B c.K t.bad t.I t.F = some r) : Calls Tryd.prog 16 #[c.val, t.val] w fun e w' => e = .returned (.bool r) ∧ Below w.heap.size w w' :=
  inquestref03_Fits.calls k c.n c.A1 c.c1 c.L c.A2 c.c2 c.G c.A3 c.c3 c.O c.A4 c.c4 c.B c.A5 c.c5 c.K t.bad t.A1 t.c1 t.I t.A2 t.c2 t.F r w hc.r1 hc.h1 hc.r2 hc.h2 hc.r3 hc.h3 hc.r4 hc.h4 hc.r5 hc.h5 ht.r1 ht.h1 ht.r2 ht.h2 h
theorem fails_k {r : Bool} {e0 : Int} (h : sim_Fails.f c.n c.L c.G c.O c.B c.K t.bad t.I t.F = some (r, e0)) : Calls Tryd.prog 18 #[c.val, t.val] w fun e w' => e = .returned (.tuple #[.bool r, .int .i64 e0]) ∧ Below w.heap.size w w' :=
  sim_Fails.calls c.n c.A1 c.c1 c.L c.A2 c.c2 c.G c.A3 c.c3 c.O c.A4 c.c4 c.B c.A5 c.c5 c.K t.bad t.A1 t.c1 t.I t.A2 t.c2 t.F r e0 w hc.r1 hc.h1 hc.r2 hc.h2 hc.r3 hc.h3 hc.r4 hc.h4 hc.r5 hc.h5 ht.r1 ht.h1 ht.r2 ht.h2 h
theorem run_k {l : List (List Int)} {e0 : Int} (h : sim_Run.f c.n c.L c.G c.O c.B c.K t.bad t.I t.F = some (l, e0)) : Calls Tryd.prog 19 #[c.val, t.val] w fun e w' => ∃ A cap, e = .returned (.tuple #[.slice A l.length cap, .int .i64 e0]) ∧ Kd.S (Kd.slice 5 (Kd.int .u8)) 27 w' w.heap.size (fun _ => True) (.slice A l.length cap) l ∧ Below w.heap.size w w' := by
  refine (sim_Run.calls c.n c.A1 c.c1 c.L c.A2 c.c2 c.G c.A3 c.c3 c.O c.A4 c.c4 c.B c.A5 c.c5 c.K t.bad t.A1 t.c1 t.I t.A2 t.c2 t.F l e0 w hc.r1 hc.h1 hc.r2 hc.h2 hc.r3 hc.h3 hc.r4 hc.h4 hc.r5 hc.h5 ht.r1 ht.h1 ht.r2 ht.h2 h).mono ?_
  rintro e w' ⟨v, rfl, hS, hb⟩
  obtain ⟨A, cap, rfl⟩ := Kd.R_slice (Kd.S_R hS)
  exact ⟨A, cap, rfl, hS, hb⟩
end
theorem vars_k (c : Circ) {w : World} (hc : c.ok w) {r : Int} (k : Nat) (h : inquestref03_Vars.f k c.n c.L c.G c.O c.B c.K = some r) : Calls Tryd.prog 20 #[c.val] w fun e w' => e = .returned (.int .i64 r) ∧ Below w.heap.size w w' :=
  inquestref03_Vars.calls k c.n c.A1 c.c1 c.L c.A2 c.c2 c.G c.A3 c.c3 c.O c.A4 c.c4 c.B c.A5 c.c5 c.K r w hc.r1 hc.h1 hc.r2 hc.h2 hc.r3 hc.h3 hc.r4 hc.h4 hc.r5 hc.h5 h
theorem filled_k (t : Trc) {w : World} (ht : t.ok w) (A : Option Addr) (cap : Nat) (l : List Bool) (hl : l.length ≤ cap) (hr : Kd.C Kd.bool w A l.length l) (k : Nat) {b : Int} {I : List Int} {F : List (List Int)} (h : inquestlaw07_filled.f k t.bad t.I t.F l = some (b, I, F)) :
    Calls Tryd.prog 17 #[t.val, .slice A l.length cap] w fun e w' => ∃ A1 c1 A2 c2, e = .returned (Trc.val ⟨b, A1, c1, I, A2, c2, F⟩) ∧ Trc.ok ⟨b, A1, c1, I, A2, c2, F⟩ w' ∧ Below w.heap.size w w' := by
  refine (inquestlaw07_filled.calls k t.bad t.A1 t.c1 t.I t.A2 t.c2 t.F A cap l b I F w ht.r1 ht.h1 ht.r2 ht.h2 hr hl h).mono ?_
  rintro e w' ⟨v1, v2, rfl, h1, h2, hb⟩
  obtain ⟨A1, c1, rfl, l1, g1⟩ := Kd.R_reads h1
  obtain ⟨A2, c2, rfl, l2, g2⟩ := Kd.R_reads (Kd.S_R h2)
  exact ⟨A1, c1, A2, c2, rfl, ⟨g1, l1, g2, l2⟩, hb⟩
end Go.Proofs.YthpnooookkpkaaaDoor.F
namespace Go.Proofs.YthpnooookkpkaaaDoor.F
open Go.Shelf Go.RowKit Go.Proofs.YthpnooookkpkaaaDoorW.PrintWords Go.Proofs.YthpnooookkpkaaaDoorW.PrintLast Go.Proofs.YthpnooookkpkaaaDoorW.PrintMore
theorem liv07 (w : World) : Calls Tryd.prog 14 #[] w fun e w' => e = .returned (.bool true) ∧ Below w.heap.size w w' := inquestlaw07_lives.calls true w rfl
theorem w64s (q : Nat) (h : q ≤ 9223372036854775806) : Value.int .i64 (wrap64 ((q : Int) + 1)) = Value.int .i64 ((q + 1 : Nat) : Int) := by rw [w64 (by omega)]; rfl
theorem i64_nv (n : Nat) (h : n ≤ 1000001) : IntKind.i64.wrap ((n : Int) + 1) = (n : Int) + 1 := by rw [IntKind.wrap_i64]; omega
set_option maxRecDepth 100000 in
set_option maxHeartbeats 4000000 in
theorem SimSure_great (c : Circ) (t : Trc) (A : Option Addr) (cap : Nat) (l : List Bool) (w : World) (hc : c.ok w) (ht : t.ok w) (hg : inquestlaw07_great.f c.n c.L c.G c.O c.B c.K t.bad t.I t.F = some true) :
    Calls Tryd.prog 3 #[c.val, t.val, .slice A l.length cap] w fun e w' => e = .returned (.bool true) ∧ Below w.heap.size w w' := by
  have HG := Aside0.mk (fun W (hb : Below w.heap.size w W) => great_k c t (hc.below hb) (ht.below hb) hg)
  clear hc ht hg
  unfold Circ.val Circ.cells Trc.val Trc.cells at HG ⊢
  go_enter Tryd.func3, Tryd.ntmps3
  go_wp2_with fail
  refine (HG.out _ (by repeat (first | exact Below.refl _ _ | apply below_alloc | apply below_drew1 | apply pw_below_drewN))).mono ?_
  rintro e w1 ⟨rfl, hb⟩
  have HB1 : Below w.heap.size w w1 := below_step (by repeat (first | exact Below.refl _ _ | apply below_alloc | apply below_drew1 | apply pw_below_drewN | refine Below.setCell ?_ (by show w.heap.size ≤ w.heap.size; omega) _ | refine Below.setCell ?_ (by show w.heap.size ≤ w.heap.size + 1; omega) _)) hb
  have cc_0_1 : w1.cell? ⟨w.heap.size, 0, none⟩ = some (.int .i64 c.n) := pw_cell_below hb (by go_simp)
  have cc_1_1 : w1.cell? ⟨w.heap.size, 1, none⟩ = some (.slice c.A1 c.L.length c.c1) := pw_cell_below hb (by go_simp)
  have cc_2_1 : w1.cell? ⟨w.heap.size, 2, none⟩ = some (.slice c.A2 c.G.length c.c2) := pw_cell_below hb (by go_simp)
  have cc_3_1 : w1.cell? ⟨w.heap.size, 3, none⟩ = some (.slice c.A3 c.O.length c.c3) := pw_cell_below hb (by go_simp)
  have cc_4_1 : w1.cell? ⟨w.heap.size, 4, none⟩ = some (.slice c.A4 c.B.length c.c4) := pw_cell_below hb (by go_simp)
  have cc_5_1 : w1.cell? ⟨w.heap.size, 5, none⟩ = some (.slice c.A5 c.K.length c.c5) := pw_cell_below hb (by go_simp)
  have sc_1 : w.heap.size < w1.heap.size := World.block_lt_of_cell? _ _ cc_0_1
  have ct_0_1 : w1.cell? ⟨w.heap.size + 1, 0, none⟩ = some (.int .i64 t.bad) := pw_cell_below hb (by go_simp)
  have ct_1_1 : w1.cell? ⟨w.heap.size + 1, 1, none⟩ = some (.slice t.A1 t.I.length t.c1) := pw_cell_below hb (by go_simp)
  have ct_2_1 : w1.cell? ⟨w.heap.size + 1, 2, none⟩ = some (.slice t.A2 t.F.length t.c2) := pw_cell_below hb (by go_simp)
  have st_1 : w.heap.size + 1 < w1.heap.size := World.block_lt_of_cell? _ _ ct_0_1
  clear hb
  go_wp2_with fail
  refine (liv07 _).mono ?_
  rintro e w2 ⟨rfl, hb⟩
  have HB2 : Below w.heap.size w w2 := below_step (by repeat (first | exact HB1 | (refine Below.alloc ?_ (by first | exact Nat.le_refl _ | (have := HB1.size; simp; omega) | (simp; omega)) _) | apply below_alloc | apply below_drew1 | apply pw_below_drewN | refine Below.setCell ?_ (by show w.heap.size ≤ w.heap.size; omega) _ | refine Below.setCell ?_ (by show w.heap.size ≤ w.heap.size + 1; omega) _)) hb
  have cc_0_2 : w2.cell? ⟨w.heap.size, 0, none⟩ = some (.int .i64 c.n) := pw_cell_below hb (by go_simp)
  have cc_1_2 : w2.cell? ⟨w.heap.size, 1, none⟩ = some (.slice c.A1 c.L.length c.c1) := pw_cell_below hb (by go_simp)
  have cc_2_2 : w2.cell? ⟨w.heap.size, 2, none⟩ = some (.slice c.A2 c.G.length c.c2) := pw_cell_below hb (by go_simp)
  have cc_3_2 : w2.cell? ⟨w.heap.size, 3, none⟩ = some (.slice c.A3 c.O.length c.c3) := pw_cell_below hb (by go_simp)
  have cc_4_2 : w2.cell? ⟨w.heap.size, 4, none⟩ = some (.slice c.A4 c.B.length c.c4) := pw_cell_below hb (by go_simp)
  have cc_5_2 : w2.cell? ⟨w.heap.size, 5, none⟩ = some (.slice c.A5 c.K.length c.c5) := pw_cell_below hb (by go_simp)
  have sc_2 : w.heap.size < w2.heap.size := World.block_lt_of_cell? _ _ cc_0_2
  have ct_0_2 : w2.cell? ⟨w.heap.size + 1, 0, none⟩ = some (.int .i64 t.bad) := pw_cell_below hb (by go_simp)
  have ct_1_2 : w2.cell? ⟨w.heap.size + 1, 1, none⟩ = some (.slice t.A1 t.I.length t.c1) := pw_cell_below hb (by go_simp)
  have ct_2_2 : w2.cell? ⟨w.heap.size + 1, 2, none⟩ = some (.slice t.A2 t.F.length t.c2) := pw_cell_below hb (by go_simp)
  have st_2 : w.heap.size + 1 < w2.heap.size := World.block_lt_of_cell? _ _ ct_0_2
  clear hb cc_0_1 cc_1_1 cc_2_1 cc_3_1 cc_4_1 cc_5_1 sc_1 ct_0_1 ct_1_1 ct_2_1 st_1
  go_wp2_with fail
  go_ret
  exact ⟨rfl, HB2⟩
set_option maxRecDepth 100000 in
set_option maxHeartbeats 4000000 in
theorem SimSure_unfit (c : Circ) (t : Trc) (A : Option Addr) (cap : Nat) (l : List Bool) (w : World) (hc : c.ok w) (ht : t.ok w) (hg : inquestlaw07_great.f c.n c.L c.G c.O c.B c.K t.bad t.I t.F = some false)
    (h1 : sim_Surely.f c.n c.L c.G c.O c.B c.K t.bad t.I t.F = some (0, 2)) (k : Nat) (h2 : inquestref03_Fits.f k c.n c.L c.G c.O c.B c.K t.bad t.I t.F = some false) :
    Calls Tryd.prog 3 #[c.val, t.val, .slice A l.length cap] w fun e w' => e = .returned (.bool true) ∧ Below w.heap.size w w' := by
  have HG := Aside0.mk (fun W (hb : Below w.heap.size w W) => great_k c t (hc.below hb) (ht.below hb) hg)
  have HS := Aside0.mk (fun W (hb : Below w.heap.size w W) => surely_k c t (hc.below hb) (ht.below hb) h1)
  have HF := Aside0.mk (fun W (hb : Below w.heap.size w W) => fits_k c t (hc.below hb) (ht.below hb) k h2)
  clear hc ht hg h1 h2
  unfold Circ.val Circ.cells Trc.val Trc.cells at HG HS HF ⊢
  go_enter Tryd.func3, Tryd.ntmps3
  go_wp2_with fail
  refine (HG.out _ (by repeat (first | exact Below.refl _ _ | apply below_alloc | apply below_drew1 | apply pw_below_drewN))).mono ?_
  rintro e w1 ⟨rfl, hb⟩
  have HB1 : Below w.heap.size w w1 := below_step (by repeat (first | exact Below.refl _ _ | apply below_alloc | apply below_drew1 | apply pw_below_drewN | refine Below.setCell ?_ (by show w.heap.size ≤ w.heap.size; omega) _ | refine Below.setCell ?_ (by show w.heap.size ≤ w.heap.size + 1; omega) _)) hb
  have cc_0_1 : w1.cell? ⟨w.heap.size, 0, none⟩ = some (.int .i64 c.n) := pw_cell_below hb (by go_simp)
  have cc_1_1 : w1.cell? ⟨w.heap.size, 1, none⟩ = some (.slice c.A1 c.L.length c.c1) := pw_cell_below hb (by go_simp)
  have cc_2_1 : w1.cell? ⟨w.heap.size, 2, none⟩ = some (.slice c.A2 c.G.length c.c2) := pw_cell_below hb (by go_simp)
  have cc_3_1 : w1.cell? ⟨w.heap.size, 3, none⟩ = some (.slice c.A3 c.O.length c.c3) := pw_cell_below hb (by go_simp)
  have cc_4_1 : w1.cell? ⟨w.heap.size, 4, none⟩ = some (.slice c.A4 c.B.length c.c4) := pw_cell_below hb (by go_simp)
  have cc_5_1 : w1.cell? ⟨w.heap.size, 5, none⟩ = some (.slice c.A5 c.K.length c.c5) := pw_cell_below hb (by go_simp)
  have sc_1 : w.heap.size < w1.heap.size := World.block_lt_of_cell? _ _ cc_0_1
  have ct_0_1 : w1.cell? ⟨w.heap.size + 1, 0, none⟩ = some (.int .i64 t.bad) := pw_cell_below hb (by go_simp)
  have ct_1_1 : w1.cell? ⟨w.heap.size + 1, 1, none⟩ = some (.slice t.A1 t.I.length t.c1) := pw_cell_below hb (by go_simp)
  have ct_2_1 : w1.cell? ⟨w.heap.size + 1, 2, none⟩ = some (.slice t.A2 t.F.length t.c2) := pw_cell_below hb (by go_simp)
  have st_1 : w.heap.size + 1 < w1.heap.size := World.block_lt_of_cell? _ _ ct_0_1
  clear hb
  go_wp2_with fail
  refine (HS.out _ (by repeat (first | exact HB1 | apply below_alloc | apply below_drew1 | apply pw_below_drewN))).mono ?_
  rintro e w2 ⟨rfl, hb⟩
  have HB2 : Below w.heap.size w w2 := below_step (by repeat (first | exact HB1 | (refine Below.alloc ?_ (by first | exact Nat.le_refl _ | (have := HB1.size; simp; omega) | (simp; omega)) _) | apply below_alloc | apply below_drew1 | apply pw_below_drewN | refine Below.setCell ?_ (by show w.heap.size ≤ w.heap.size; omega) _ | refine Below.setCell ?_ (by show w.heap.size ≤ w.heap.size + 1; omega) _)) hb
  have cc_0_2 : w2.cell? ⟨w.heap.size, 0, none⟩ = some (.int .i64 c.n) := pw_cell_below hb (by go_simp)
  have cc_1_2 : w2.cell? ⟨w.heap.size, 1, none⟩ = some (.slice c.A1 c.L.length c.c1) := pw_cell_below hb (by go_simp)
  have cc_2_2 : w2.cell? ⟨w.heap.size, 2, none⟩ = some (.slice c.A2 c.G.length c.c2) := pw_cell_below hb (by go_simp)
  have cc_3_2 : w2.cell? ⟨w.heap.size, 3, none⟩ = some (.slice c.A3 c.O.length c.c3) := pw_cell_below hb (by go_simp)
  have cc_4_2 : w2.cell? ⟨w.heap.size, 4, none⟩ = some (.slice c.A4 c.B.length c.c4) := pw_cell_below hb (by go_simp)
  have cc_5_2 : w2.cell? ⟨w.heap.size, 5, none⟩ = some (.slice c.A5 c.K.length c.c5) := pw_cell_below hb (by go_simp)
  have sc_2 : w.heap.size < w2.heap.size := World.block_lt_of_cell? _ _ cc_0_2
  have ct_0_2 : w2.cell? ⟨w.heap.size + 1, 0, none⟩ = some (.int .i64 t.bad) := pw_cell_below hb (by go_simp)
  have ct_1_2 : w2.cell? ⟨w.heap.size + 1, 1, none⟩ = some (.slice t.A1 t.I.length t.c1) := pw_cell_below hb (by go_simp)
  have ct_2_2 : w2.cell? ⟨w.heap.size + 1, 2, none⟩ = some (.slice t.A2 t.F.length t.c2) := pw_cell_below hb (by go_simp)
  have st_2 : w.heap.size + 1 < w2.heap.size := World.block_lt_of_cell? _ _ ct_0_2
  clear hb cc_0_1 cc_1_1 cc_2_1 cc_3_1 cc_4_1 cc_5_1 sc_1 ct_0_1 ct_1_1 ct_2_1 st_1
  go_wp2_with fail
  refine (HF.out _ (by repeat (first | exact HB2 | apply below_alloc | apply below_drew1 | apply pw_below_drewN))).mono ?_
  rintro e w3 ⟨rfl, hb⟩
  have HB3 : Below w.heap.size w w3 := below_step (by repeat (first | exact HB2 | (refine Below.alloc ?_ (by first | exact Nat.le_refl _ | (have := HB2.size; simp; omega) | (simp; omega)) _) | apply below_alloc | apply below_drew1 | apply pw_below_drewN | refine Below.setCell ?_ (by show w.heap.size ≤ w.heap.size; omega) _ | refine Below.setCell ?_ (by show w.heap.size ≤ w.heap.size + 1; omega) _)) hb
  have cc_0_3 : w3.cell? ⟨w.heap.size, 0, none⟩ = some (.int .i64 c.n) := pw_cell_below hb (by go_simp)
  have cc_1_3 : w3.cell? ⟨w.heap.size, 1, none⟩ = some (.slice c.A1 c.L.length c.c1) := pw_cell_below hb (by go_simp)
  have cc_2_3 : w3.cell? ⟨w.heap.size, 2, none⟩ = some (.slice c.A2 c.G.length c.c2) := pw_cell_below hb (by go_simp)
  have cc_3_3 : w3.cell? ⟨w.heap.size, 3, none⟩ = some (.slice c.A3 c.O.length c.c3) := pw_cell_below hb (by go_simp)
  have cc_4_3 : w3.cell? ⟨w.heap.size, 4, none⟩ = some (.slice c.A4 c.B.length c.c4) := pw_cell_below hb (by go_simp)
  have cc_5_3 : w3.cell? ⟨w.heap.size, 5, none⟩ = some (.slice c.A5 c.K.length c.c5) := pw_cell_below hb (by go_simp)
  have sc_3 : w.heap.size < w3.heap.size := World.block_lt_of_cell? _ _ cc_0_3
  have ct_0_3 : w3.cell? ⟨w.heap.size + 1, 0, none⟩ = some (.int .i64 t.bad) := pw_cell_below hb (by go_simp)
  have ct_1_3 : w3.cell? ⟨w.heap.size + 1, 1, none⟩ = some (.slice t.A1 t.I.length t.c1) := pw_cell_below hb (by go_simp)
  have ct_2_3 : w3.cell? ⟨w.heap.size + 1, 2, none⟩ = some (.slice t.A2 t.F.length t.c2) := pw_cell_below hb (by go_simp)
  have st_3 : w.heap.size + 1 < w3.heap.size := World.block_lt_of_cell? _ _ ct_0_3
  clear hb cc_0_2 cc_1_2 cc_2_2 cc_3_2 cc_4_2 cc_5_2 sc_2 ct_0_2 ct_1_2 ct_2_2 st_2
  go_wp2_with fail
  refine (liv07 _).mono ?_
  rintro e w4 ⟨rfl, hb⟩
  have HB4 : Below w.heap.size w w4 := below_step (by repeat (first | exact HB3 | (refine Below.alloc ?_ (by first | exact Nat.le_refl _ | (have := HB3.size; simp; omega) | (simp; omega)) _) | apply below_alloc | apply below_drew1 | apply pw_below_drewN | refine Below.setCell ?_ (by show w.heap.size ≤ w.heap.size; omega) _ | refine Below.setCell ?_ (by show w.heap.size ≤ w.heap.size + 1; omega) _)) hb
  have cc_0_4 : w4.cell? ⟨w.heap.size, 0, none⟩ = some (.int .i64 c.n) := pw_cell_below hb (by go_simp)
  have cc_1_4 : w4.cell? ⟨w.heap.size, 1, none⟩ = some (.slice c.A1 c.L.length c.c1) := pw_cell_below hb (by go_simp)
  have cc_2_4 : w4.cell? ⟨w.heap.size, 2, none⟩ = some (.slice c.A2 c.G.length c.c2) := pw_cell_below hb (by go_simp)
  have cc_3_4 : w4.cell? ⟨w.heap.size, 3, none⟩ = some (.slice c.A3 c.O.length c.c3) := pw_cell_below hb (by go_simp)
  have cc_4_4 : w4.cell? ⟨w.heap.size, 4, none⟩ = some (.slice c.A4 c.B.length c.c4) := pw_cell_below hb (by go_simp)
  have cc_5_4 : w4.cell? ⟨w.heap.size, 5, none⟩ = some (.slice c.A5 c.K.length c.c5) := pw_cell_below hb (by go_simp)
  have sc_4 : w.heap.size < w4.heap.size := World.block_lt_of_cell? _ _ cc_0_4
  have ct_0_4 : w4.cell? ⟨w.heap.size + 1, 0, none⟩ = some (.int .i64 t.bad) := pw_cell_below hb (by go_simp)
  have ct_1_4 : w4.cell? ⟨w.heap.size + 1, 1, none⟩ = some (.slice t.A1 t.I.length t.c1) := pw_cell_below hb (by go_simp)
  have ct_2_4 : w4.cell? ⟨w.heap.size + 1, 2, none⟩ = some (.slice t.A2 t.F.length t.c2) := pw_cell_below hb (by go_simp)
  have st_4 : w.heap.size + 1 < w4.heap.size := World.block_lt_of_cell? _ _ ct_0_4
  clear hb cc_0_3 cc_1_3 cc_2_3 cc_3_3 cc_4_3 cc_5_3 sc_3 ct_0_3 ct_1_3 ct_2_3 st_3
  go_wp2_with fail
  go_ret
  exact ⟨rfl, HB4⟩
set_option maxRecDepth 100000 in
set_option maxHeartbeats 4000000 in
theorem SimSure_fit (c : Circ) (t : Trc) (A : Option Addr) (cap : Nat) (bl : List Bool) (w : World) (hc : c.ok w) (ht : t.ok w) (hcap : bl.length ≤ cap) (hbl : Kd.C Kd.bool w A bl.length bl)
    (hg : inquestlaw07_great.f c.n c.L c.G c.O c.B c.K t.bad t.I t.F = some false) (v : Int) (is : Bool) (hvi : v = 2 ∨ ((v != 2) = true ∧ is = (v == 1)))
    (h1 : sim_Surely.f c.n c.L c.G c.O c.B c.K t.bad t.I t.F = some (v, 0)) (k : Nat) (h2 : inquestref03_Fits.f k c.n c.L c.G c.O c.B c.K t.bad t.I t.F = some true)
    (I : List Int) (F : List (List Int)) (k3 : Nat) (h3 : inquestlaw07_filled.f k3 t.bad t.I t.F bl = some (t.bad, I, F)) (h4 : sim_Fails.f c.n c.L c.G c.O c.B c.K t.bad I F = some (is, 0))
    (l m : List (List Int)) (h5 : sim_Run.f c.n c.L c.G c.O c.B c.K t.bad t.I t.F = some (l, 0)) (h6 : sim_Run.f c.n c.L c.G c.O c.B c.K t.bad I F = some (m, 0)) (hF300 : t.F.length ≤ 300) (hlF : l.length = t.F.length) (hml : m.length = l.length)
    (nv : Nat) (k7 : Nat) (h7 : inquestref03_Vars.f k7 c.n c.L c.G c.O c.B c.K = some (nv : Int)) (hnv : nv ≤ 1000000) (hrow : ∀ i (h : i < l.length) (h' : i < m.length), l[i].length = nv + 1 ∧ m[i].length = nv + 1 ∧ at0 l[i] 0 = 0 ∧ RefL l[i] m[i]) :
    Calls Tryd.prog 3 #[c.val, t.val, .slice A bl.length cap] w fun e w' => e = .returned (.bool true) ∧ Below w.heap.size w w' := by
  have HG := Aside0.mk (fun W (hb : Below w.heap.size w W) => great_k c t (hc.below hb) (ht.below hb) hg)
  have HS := Aside0.mk (fun W (hb : Below w.heap.size w W) => surely_k c t (hc.below hb) (ht.below hb) h1)
  have HF := Aside0.mk (fun W (hb : Below w.heap.size w W) => fits_k c t (hc.below hb) (ht.below hb) k h2)
  have HL := Aside0.mk (fun W (hb : Below w.heap.size w W) => filled_k t (ht.below hb) A cap bl hcap (Kd.C_below hbl hb) k3 h3)
  have HX := Aside0.mk (fun A1 c1 A2 c2 W (hb : Below w.heap.size w W) (hx : Trc.ok ⟨t.bad, A1, c1, I, A2, c2, F⟩ W) => fails_k c ⟨t.bad, A1, c1, I, A2, c2, F⟩ (hc.below hb) hx h4)
  have HR := Aside0.mk (fun W (hb : Below w.heap.size w W) => run_k c t (hc.below hb) (ht.below hb) h5)
  have HM := Aside0.mk (fun A1 c1 A2 c2 W (hb : Below w.heap.size w W) (hx : Trc.ok ⟨t.bad, A1, c1, I, A2, c2, F⟩ W) => run_k c ⟨t.bad, A1, c1, I, A2, c2, F⟩ (hc.below hb) hx h6)
  have HV := Aside0.mk (fun W (hb : Below w.heap.size w W) => vars_k c (hc.below hb) k7 h7)
  have HROW := Aside0.mk hrow
  have HLF := Aside0.mk hlF
  have HML := Aside0.mk hml
  have HNV := Aside0.mk hnv
  have HVI := Aside0.mk hvi
  simp only [hlF] at HR
  simp only [hml, hlF] at HM
  clear hc ht hg h1 h2 h3 h4 h5 h6 h7 hrow hlF hml hnv hbl hcap hvi
  simp only [Circ.val, Circ.cells, Trc.val, Trc.cells] at HG HS HF HL HX HR HM HV ⊢
  go_enter Tryd.func3, Tryd.ntmps3
  go_wp2_with fail
  refine (HG.out _ (by repeat (first | exact Below.refl _ _ | apply below_alloc | apply below_drew1 | apply pw_below_drewN))).mono ?_
  rintro e w1 ⟨rfl, hb⟩
  have HB1 : Below w.heap.size w w1 := below_step (by repeat (first | exact Below.refl _ _ | apply below_alloc | apply below_drew1 | apply pw_below_drewN | refine Below.setCell ?_ (by show w.heap.size ≤ w.heap.size; omega) _ | refine Below.setCell ?_ (by show w.heap.size ≤ w.heap.size + 1; omega) _)) hb
  have cc_0_1 : w1.cell? ⟨w.heap.size, 0, none⟩ = some (.int .i64 c.n) := pw_cell_below hb (by go_simp)
  have cc_1_1 : w1.cell? ⟨w.heap.size, 1, none⟩ = some (.slice c.A1 c.L.length c.c1) := pw_cell_below hb (by go_simp)
  have cc_2_1 : w1.cell? ⟨w.heap.size, 2, none⟩ = some (.slice c.A2 c.G.length c.c2) := pw_cell_below hb (by go_simp)
  have cc_3_1 : w1.cell? ⟨w.heap.size, 3, none⟩ = some (.slice c.A3 c.O.length c.c3) := pw_cell_below hb (by go_simp)
  have cc_4_1 : w1.cell? ⟨w.heap.size, 4, none⟩ = some (.slice c.A4 c.B.length c.c4) := pw_cell_below hb (by go_simp)
  have cc_5_1 : w1.cell? ⟨w.heap.size, 5, none⟩ = some (.slice c.A5 c.K.length c.c5) := pw_cell_below hb (by go_simp)
  have sc_1 : w.heap.size < w1.heap.size := World.block_lt_of_cell? _ _ cc_0_1
  have ct_0_1 : w1.cell? ⟨w.heap.size + 1, 0, none⟩ = some (.int .i64 t.bad) := pw_cell_below hb (by go_simp)
  have ct_1_1 : w1.cell? ⟨w.heap.size + 1, 1, none⟩ = some (.slice t.A1 t.I.length t.c1) := pw_cell_below hb (by go_simp)
  have ct_2_1 : w1.cell? ⟨w.heap.size + 1, 2, none⟩ = some (.slice t.A2 t.F.length t.c2) := pw_cell_below hb (by go_simp)
  have st_1 : w.heap.size + 1 < w1.heap.size := World.block_lt_of_cell? _ _ ct_0_1
  clear hb
  go_wp2_with fail
  refine (HS.out _ (by repeat (first | exact HB1 | apply below_alloc | apply below_drew1 | apply pw_below_drewN))).mono ?_
  rintro e w2 ⟨rfl, hb⟩
  have HB2 : Below w.heap.size w w2 := below_step (by repeat (first | exact HB1 | (refine Below.alloc ?_ (by first | exact Nat.le_refl _ | (have := HB1.size; simp; omega) | (simp; omega)) _) | apply below_alloc | apply below_drew1 | apply pw_below_drewN | refine Below.setCell ?_ (by show w.heap.size ≤ w.heap.size; omega) _ | refine Below.setCell ?_ (by show w.heap.size ≤ w.heap.size + 1; omega) _)) hb
  have cc_0_2 : w2.cell? ⟨w.heap.size, 0, none⟩ = some (.int .i64 c.n) := pw_cell_below hb (by go_simp)
  have cc_1_2 : w2.cell? ⟨w.heap.size, 1, none⟩ = some (.slice c.A1 c.L.length c.c1) := pw_cell_below hb (by go_simp)
  have cc_2_2 : w2.cell? ⟨w.heap.size, 2, none⟩ = some (.slice c.A2 c.G.length c.c2) := pw_cell_below hb (by go_simp)
  have cc_3_2 : w2.cell? ⟨w.heap.size, 3, none⟩ = some (.slice c.A3 c.O.length c.c3) := pw_cell_below hb (by go_simp)
  have cc_4_2 : w2.cell? ⟨w.heap.size, 4, none⟩ = some (.slice c.A4 c.B.length c.c4) := pw_cell_below hb (by go_simp)
  have cc_5_2 : w2.cell? ⟨w.heap.size, 5, none⟩ = some (.slice c.A5 c.K.length c.c5) := pw_cell_below hb (by go_simp)
  have sc_2 : w.heap.size < w2.heap.size := World.block_lt_of_cell? _ _ cc_0_2
  have ct_0_2 : w2.cell? ⟨w.heap.size + 1, 0, none⟩ = some (.int .i64 t.bad) := pw_cell_below hb (by go_simp)
  have ct_1_2 : w2.cell? ⟨w.heap.size + 1, 1, none⟩ = some (.slice t.A1 t.I.length t.c1) := pw_cell_below hb (by go_simp)
  have ct_2_2 : w2.cell? ⟨w.heap.size + 1, 2, none⟩ = some (.slice t.A2 t.F.length t.c2) := pw_cell_below hb (by go_simp)
  have st_2 : w.heap.size + 1 < w2.heap.size := World.block_lt_of_cell? _ _ ct_0_2
  clear hb cc_0_1 cc_1_1 cc_2_1 cc_3_1 cc_4_1 cc_5_1 sc_1 ct_0_1 ct_1_1 ct_2_1 st_1
  go_wp2_with fail
  refine (HF.out _ (by repeat (first | exact HB2 | apply below_alloc | apply below_drew1 | apply pw_below_drewN))).mono ?_
  rintro e w3 ⟨rfl, hb⟩
  have HB3 : Below w.heap.size w w3 := below_step (by repeat (first | exact HB2 | (refine Below.alloc ?_ (by first | exact Nat.le_refl _ | (have := HB2.size; simp; omega) | (simp; omega)) _) | apply below_alloc | apply below_drew1 | apply pw_below_drewN | refine Below.setCell ?_ (by show w.heap.size ≤ w.heap.size; omega) _ | refine Below.setCell ?_ (by show w.heap.size ≤ w.heap.size + 1; omega) _)) hb
  have cc_0_3 : w3.cell? ⟨w.heap.size, 0, none⟩ = some (.int .i64 c.n) := pw_cell_below hb (by go_simp)
  have cc_1_3 : w3.cell? ⟨w.heap.size, 1, none⟩ = some (.slice c.A1 c.L.length c.c1) := pw_cell_below hb (by go_simp)
  have cc_2_3 : w3.cell? ⟨w.heap.size, 2, none⟩ = some (.slice c.A2 c.G.length c.c2) := pw_cell_below hb (by go_simp)
  have cc_3_3 : w3.cell? ⟨w.heap.size, 3, none⟩ = some (.slice c.A3 c.O.length c.c3) := pw_cell_below hb (by go_simp)
  have cc_4_3 : w3.cell? ⟨w.heap.size, 4, none⟩ = some (.slice c.A4 c.B.length c.c4) := pw_cell_below hb (by go_simp)
  have cc_5_3 : w3.cell? ⟨w.heap.size, 5, none⟩ = some (.slice c.A5 c.K.length c.c5) := pw_cell_below hb (by go_simp)
  have sc_3 : w.heap.size < w3.heap.size := World.block_lt_of_cell? _ _ cc_0_3
  have ct_0_3 : w3.cell? ⟨w.heap.size + 1, 0, none⟩ = some (.int .i64 t.bad) := pw_cell_below hb (by go_simp)
  have ct_1_3 : w3.cell? ⟨w.heap.size + 1, 1, none⟩ = some (.slice t.A1 t.I.length t.c1) := pw_cell_below hb (by go_simp)
  have ct_2_3 : w3.cell? ⟨w.heap.size + 1, 2, none⟩ = some (.slice t.A2 t.F.length t.c2) := pw_cell_below hb (by go_simp)
  have st_3 : w.heap.size + 1 < w3.heap.size := World.block_lt_of_cell? _ _ ct_0_3
  clear hb cc_0_2 cc_1_2 cc_2_2 cc_3_2 cc_4_2 cc_5_2 sc_2 ct_0_2 ct_1_2 ct_2_2 st_2
  go_wp2_with fail
  refine (HL.out _ (by repeat (first | exact HB3 | apply below_alloc | apply below_drew1 | apply pw_below_drewN))).mono ?_
  rintro e w4 ⟨A1, c1, A2, c2, rfl, hx, hb⟩
  have HOK := Aside0.mk hx
  clear hx
  have HB4 : Below w.heap.size w w4 := below_step (by repeat (first | exact HB3 | (refine Below.alloc ?_ (by first | exact Nat.le_refl _ | (have := HB3.size; simp; omega) | (simp; omega)) _) | apply below_alloc | apply below_drew1 | apply pw_below_drewN | refine Below.setCell ?_ (by show w.heap.size ≤ w.heap.size; omega) _ | refine Below.setCell ?_ (by show w.heap.size ≤ w.heap.size + 1; omega) _)) hb
  have cc_0_4 : w4.cell? ⟨w.heap.size, 0, none⟩ = some (.int .i64 c.n) := pw_cell_below hb (by go_simp)
  have cc_1_4 : w4.cell? ⟨w.heap.size, 1, none⟩ = some (.slice c.A1 c.L.length c.c1) := pw_cell_below hb (by go_simp)
  have cc_2_4 : w4.cell? ⟨w.heap.size, 2, none⟩ = some (.slice c.A2 c.G.length c.c2) := pw_cell_below hb (by go_simp)
  have cc_3_4 : w4.cell? ⟨w.heap.size, 3, none⟩ = some (.slice c.A3 c.O.length c.c3) := pw_cell_below hb (by go_simp)
  have cc_4_4 : w4.cell? ⟨w.heap.size, 4, none⟩ = some (.slice c.A4 c.B.length c.c4) := pw_cell_below hb (by go_simp)
  have cc_5_4 : w4.cell? ⟨w.heap.size, 5, none⟩ = some (.slice c.A5 c.K.length c.c5) := pw_cell_below hb (by go_simp)
  have sc_4 : w.heap.size < w4.heap.size := World.block_lt_of_cell? _ _ cc_0_4
  have ct_0_4 : w4.cell? ⟨w.heap.size + 1, 0, none⟩ = some (.int .i64 t.bad) := pw_cell_below hb (by go_simp)
  have ct_1_4 : w4.cell? ⟨w.heap.size + 1, 1, none⟩ = some (.slice t.A1 t.I.length t.c1) := pw_cell_below hb (by go_simp)
  have ct_2_4 : w4.cell? ⟨w.heap.size + 1, 2, none⟩ = some (.slice t.A2 t.F.length t.c2) := pw_cell_below hb (by go_simp)
  have st_4 : w.heap.size + 1 < w4.heap.size := World.block_lt_of_cell? _ _ ct_0_4
  clear hb cc_0_3 cc_1_3 cc_2_3 cc_3_3 cc_4_3 cc_5_3 sc_3 ct_0_3 ct_1_3 ct_2_3 st_3
  go_wp2_with fail
  refine (HX.out A1 c1 A2 c2 _ (by repeat (first | exact HB4 | apply below_alloc | apply below_drew1 | apply pw_below_drewN)) (Trc.ok.below HOK.out (by repeat (first | exact Below.refl _ _ | apply below_alloc | apply below_drew1 | apply pw_below_drewN)))).mono ?_
  rintro e w5 ⟨rfl, hb⟩
  have HOK := Aside0.mk (Trc.ok.below HOK.out (below_step (by repeat (first | exact Below.refl _ _ | apply below_alloc | apply below_drew1 | apply pw_below_drewN)) hb))
  have HB5 : Below w.heap.size w w5 := below_step (by repeat (first | exact HB4 | (refine Below.alloc ?_ (by first | exact Nat.le_refl _ | (have := HB4.size; simp; omega) | (simp; omega)) _) | apply below_alloc | apply below_drew1 | apply pw_below_drewN | refine Below.setCell ?_ (by show w.heap.size ≤ w.heap.size; omega) _ | refine Below.setCell ?_ (by show w.heap.size ≤ w.heap.size + 1; omega) _ | refine Below.setCell ?_ (by show w.heap.size ≤ w4.heap.size; omega) _)) hb
  have cc_0_5 : w5.cell? ⟨w.heap.size, 0, none⟩ = some (.int .i64 c.n) := pw_cell_below hb (by go_simp)
  have cc_1_5 : w5.cell? ⟨w.heap.size, 1, none⟩ = some (.slice c.A1 c.L.length c.c1) := pw_cell_below hb (by go_simp)
  have cc_2_5 : w5.cell? ⟨w.heap.size, 2, none⟩ = some (.slice c.A2 c.G.length c.c2) := pw_cell_below hb (by go_simp)
  have cc_3_5 : w5.cell? ⟨w.heap.size, 3, none⟩ = some (.slice c.A3 c.O.length c.c3) := pw_cell_below hb (by go_simp)
  have cc_4_5 : w5.cell? ⟨w.heap.size, 4, none⟩ = some (.slice c.A4 c.B.length c.c4) := pw_cell_below hb (by go_simp)
  have cc_5_5 : w5.cell? ⟨w.heap.size, 5, none⟩ = some (.slice c.A5 c.K.length c.c5) := pw_cell_below hb (by go_simp)
  have sc_5 : w.heap.size < w5.heap.size := World.block_lt_of_cell? _ _ cc_0_5
  have ct_0_5 : w5.cell? ⟨w.heap.size + 1, 0, none⟩ = some (.int .i64 t.bad) := pw_cell_below hb (by go_simp)
  have ct_1_5 : w5.cell? ⟨w.heap.size + 1, 1, none⟩ = some (.slice t.A1 t.I.length t.c1) := pw_cell_below hb (by go_simp)
  have ct_2_5 : w5.cell? ⟨w.heap.size + 1, 2, none⟩ = some (.slice t.A2 t.F.length t.c2) := pw_cell_below hb (by go_simp)
  have st_5 : w.heap.size + 1 < w5.heap.size := World.block_lt_of_cell? _ _ ct_0_5
  have cx_0_5 : w5.cell? ⟨w4.heap.size, 0, none⟩ = some (.int .i64 t.bad) := pw_cell_below hb (by go_simp)
  have cx_1_5 : w5.cell? ⟨w4.heap.size, 1, none⟩ = some (.slice A1 I.length c1) := pw_cell_below hb (by go_simp)
  have cx_2_5 : w5.cell? ⟨w4.heap.size, 2, none⟩ = some (.slice A2 F.length c2) := pw_cell_below hb (by go_simp)
  have sx_5 : w4.heap.size < w5.heap.size := World.block_lt_of_cell? _ _ cx_0_5
  clear hb cc_0_4 cc_1_4 cc_2_4 cc_3_4 cc_4_4 cc_5_4 sc_4 ct_0_4 ct_1_4 ct_2_4 st_4
  go_wp2_with fail
  refine (HR.out _ (by repeat (first | exact HB5 | apply below_alloc | apply below_drew1 | apply pw_below_drewN))).mono ?_
  rintro e w6 ⟨Al, cl, rfl, hSl, hb⟩
  have HOK := Aside0.mk (Trc.ok.below HOK.out (below_step (by repeat (first | exact Below.refl _ _ | apply below_alloc | apply below_drew1 | apply pw_below_drewN)) hb))
  have HSl := Aside0.mk hSl
  clear hSl
  have HB6 : Below w.heap.size w w6 := below_step (by repeat (first | exact HB5 | (refine Below.alloc ?_ (by first | exact Nat.le_refl _ | (have := HB5.size; simp; omega) | (simp; omega)) _) | apply below_alloc | apply below_drew1 | apply pw_below_drewN | refine Below.setCell ?_ (by show w.heap.size ≤ w.heap.size; omega) _ | refine Below.setCell ?_ (by show w.heap.size ≤ w.heap.size + 1; omega) _ | refine Below.setCell ?_ (by show w.heap.size ≤ w4.heap.size; omega) _)) hb
  have cc_0_6 : w6.cell? ⟨w.heap.size, 0, none⟩ = some (.int .i64 c.n) := pw_cell_below hb (by go_simp)
  have cc_1_6 : w6.cell? ⟨w.heap.size, 1, none⟩ = some (.slice c.A1 c.L.length c.c1) := pw_cell_below hb (by go_simp)
  have cc_2_6 : w6.cell? ⟨w.heap.size, 2, none⟩ = some (.slice c.A2 c.G.length c.c2) := pw_cell_below hb (by go_simp)
  have cc_3_6 : w6.cell? ⟨w.heap.size, 3, none⟩ = some (.slice c.A3 c.O.length c.c3) := pw_cell_below hb (by go_simp)
  have cc_4_6 : w6.cell? ⟨w.heap.size, 4, none⟩ = some (.slice c.A4 c.B.length c.c4) := pw_cell_below hb (by go_simp)
  have cc_5_6 : w6.cell? ⟨w.heap.size, 5, none⟩ = some (.slice c.A5 c.K.length c.c5) := pw_cell_below hb (by go_simp)
  have sc_6 : w.heap.size < w6.heap.size := World.block_lt_of_cell? _ _ cc_0_6
  have ct_0_6 : w6.cell? ⟨w.heap.size + 1, 0, none⟩ = some (.int .i64 t.bad) := pw_cell_below hb (by go_simp)
  have ct_1_6 : w6.cell? ⟨w.heap.size + 1, 1, none⟩ = some (.slice t.A1 t.I.length t.c1) := pw_cell_below hb (by go_simp)
  have ct_2_6 : w6.cell? ⟨w.heap.size + 1, 2, none⟩ = some (.slice t.A2 t.F.length t.c2) := pw_cell_below hb (by go_simp)
  have st_6 : w.heap.size + 1 < w6.heap.size := World.block_lt_of_cell? _ _ ct_0_6
  have cx_0_6 : w6.cell? ⟨w4.heap.size, 0, none⟩ = some (.int .i64 t.bad) := pw_cell_below hb (by go_simp)
  have cx_1_6 : w6.cell? ⟨w4.heap.size, 1, none⟩ = some (.slice A1 I.length c1) := pw_cell_below hb (by go_simp)
  have cx_2_6 : w6.cell? ⟨w4.heap.size, 2, none⟩ = some (.slice A2 F.length c2) := pw_cell_below hb (by go_simp)
  have sx_6 : w4.heap.size < w6.heap.size := World.block_lt_of_cell? _ _ cx_0_6
  clear hb cc_0_5 cc_1_5 cc_2_5 cc_3_5 cc_4_5 cc_5_5 sc_5 ct_0_5 ct_1_5 ct_2_5 st_5 cx_0_5 cx_1_5 cx_2_5 sx_5
  go_wp2_with fail
  refine (HM.out A1 c1 A2 c2 _ (by repeat (first | exact HB6 | apply below_alloc | apply below_drew1 | apply pw_below_drewN)) (Trc.ok.below HOK.out (by repeat (first | exact Below.refl _ _ | apply below_alloc | apply below_drew1 | apply pw_below_drewN)))).mono ?_
  rintro e w7 ⟨Am, cm, rfl, hSm, hb⟩
  have HSm := Aside0.mk hSm
  have HSl := Aside0.mk (Kd.S_below HSl.out (below_step (by repeat (first | exact Below.refl _ _ | apply below_alloc | apply below_drew1 | apply pw_below_drewN)) hb))
  clear hSm HOK HG HS HF HL HX HR HM
  have HB7 : Below w.heap.size w w7 := below_step (by repeat (first | exact HB6 | (refine Below.alloc ?_ (by first | exact Nat.le_refl _ | (have := HB6.size; simp; omega) | (simp; omega)) _) | apply below_alloc | apply below_drew1 | apply pw_below_drewN | refine Below.setCell ?_ (by show w.heap.size ≤ w.heap.size; omega) _ | refine Below.setCell ?_ (by show w.heap.size ≤ w.heap.size + 1; omega) _ | refine Below.setCell ?_ (by show w.heap.size ≤ w4.heap.size; omega) _)) hb
  have cc_0_7 : w7.cell? ⟨w.heap.size, 0, none⟩ = some (.int .i64 c.n) := pw_cell_below hb (by go_simp)
  have cc_1_7 : w7.cell? ⟨w.heap.size, 1, none⟩ = some (.slice c.A1 c.L.length c.c1) := pw_cell_below hb (by go_simp)
  have cc_2_7 : w7.cell? ⟨w.heap.size, 2, none⟩ = some (.slice c.A2 c.G.length c.c2) := pw_cell_below hb (by go_simp)
  have cc_3_7 : w7.cell? ⟨w.heap.size, 3, none⟩ = some (.slice c.A3 c.O.length c.c3) := pw_cell_below hb (by go_simp)
  have cc_4_7 : w7.cell? ⟨w.heap.size, 4, none⟩ = some (.slice c.A4 c.B.length c.c4) := pw_cell_below hb (by go_simp)
  have cc_5_7 : w7.cell? ⟨w.heap.size, 5, none⟩ = some (.slice c.A5 c.K.length c.c5) := pw_cell_below hb (by go_simp)
  have sc_7 : w.heap.size < w7.heap.size := World.block_lt_of_cell? _ _ cc_0_7
  have ct_0_7 : w7.cell? ⟨w.heap.size + 1, 0, none⟩ = some (.int .i64 t.bad) := pw_cell_below hb (by go_simp)
  have ct_1_7 : w7.cell? ⟨w.heap.size + 1, 1, none⟩ = some (.slice t.A1 t.I.length t.c1) := pw_cell_below hb (by go_simp)
  have ct_2_7 : w7.cell? ⟨w.heap.size + 1, 2, none⟩ = some (.slice t.A2 t.F.length t.c2) := pw_cell_below hb (by go_simp)
  have st_7 : w.heap.size + 1 < w7.heap.size := World.block_lt_of_cell? _ _ ct_0_7
  have cx_0_7 : w7.cell? ⟨w4.heap.size, 0, none⟩ = some (.int .i64 t.bad) := pw_cell_below hb (by go_simp)
  have cx_1_7 : w7.cell? ⟨w4.heap.size, 1, none⟩ = some (.slice A1 I.length c1) := pw_cell_below hb (by go_simp)
  have cx_2_7 : w7.cell? ⟨w4.heap.size, 2, none⟩ = some (.slice A2 F.length c2) := pw_cell_below hb (by go_simp)
  have sx_7 : w4.heap.size < w7.heap.size := World.block_lt_of_cell? _ _ cx_0_7
  clear hb cc_0_6 cc_1_6 cc_2_6 cc_3_6 cc_4_6 cc_5_6 sc_6 ct_0_6 ct_1_6 ct_2_6 st_6 cx_0_6 cx_1_6 cx_2_6 sx_6
  have hvi := HVI.out
  have HW7 := Aside0.mk HB7
  have KC := Aside0.mk (show w7.cell? ⟨w.heap.size, 0, none⟩ = some (.int .i64 c.n) ∧ w7.cell? ⟨w.heap.size, 1, none⟩ = some (.slice c.A1 c.L.length c.c1) ∧ w7.cell? ⟨w.heap.size, 2, none⟩ = some (.slice c.A2 c.G.length c.c2) ∧ w7.cell? ⟨w.heap.size, 3, none⟩ = some (.slice c.A3 c.O.length c.c3) ∧ w7.cell? ⟨w.heap.size, 4, none⟩ = some (.slice c.A4 c.B.length c.c4) ∧ w7.cell? ⟨w.heap.size, 5, none⟩ = some (.slice c.A5 c.K.length c.c5) from ⟨cc_0_7, cc_1_7, cc_2_7, cc_3_7, cc_4_7, cc_5_7⟩)
  rcases hvi with rfl | ⟨hv2, rfl⟩
  all_goals go_wp2_with fail
  all_goals clear cc_0_7 cc_1_7 cc_2_7 cc_3_7 cc_4_7 cc_5_7 sc_7 ct_0_7 ct_1_7 ct_2_7 st_7 cx_0_7 cx_1_7 cx_2_7 sx_7 HB7
  all_goals (
    go_loopg [99] t.F.length (fun gg s99 wr => ∃ kk : Nat, kk ≤ t.F.length ∧ t.F.length - kk ≤ gg ∧ s99 = .int .i64 kk ∧ Aside0 (Below w7.heap.size w7 wr))
    case atStart => exact ⟨0, by omega, by omega, rfl, ⟨Below.refl _ _⟩⟩
    case round =>
      obtain ⟨kk, hkk, hgg, rfl, HB⟩ := hrel
      by_cases hlt : kk < t.F.length
      · have hltz : (kk : Int) < (t.F.length : Int) := by omega
        obtain ⟨nl, _, cl7⟩ := Kd.R_reads' (Kd.S_R HSl.out)
        obtain ⟨nm, _, cm7⟩ := Kd.R_reads' (Kd.S_R HSm.out)
        obtain ⟨al, Ai, ci, rfl, hi, hli, HCi⟩ := at_L4 (Kd.C_below cl7 HB.out) (kk : Int) (by omega) (by omega)
        obtain ⟨am, Bi, di, rfl, hj, hlj, HCj⟩ := at_L4 (Kd.C_below cm7 HB.out) (kk : Int) (by omega) (by omega)
        have hrw := HROW.out kk (by omega) (by omega)
        rw [← rdL4_get (by omega), ← rdL4_get (by omega)] at hrw
        obtain ⟨hr1, hr2, hr3, hr4⟩ := hrw
        rw [hr1] at hi hli
        rw [hr2] at hj hlj
        obtain ⟨ai, rfl, hi0⟩ := Kd.at_int HCi 0 (by omega) (by omega)
        obtain ⟨bi, rfl, hj0⟩ := Kd.at_int HCj 0 (by omega) (by omega)
        rw [show rd (rd_L4 l (kk : Int)) 0 = 0 from hr3] at hi0
        have HCI := Aside0.mk HCi
        have HCJ := Aside0.mk HCj
        have HRE := Aside0.mk hr4
        have HR1 := Aside0.mk hr1
        have HR2 := Aside0.mk hr2
        have HALL := Aside0.mk (below_step HW7.out HB.out)
        have hwr2 := i64_nv nv (by have := HNV.out; omega)
        obtain ⟨k0, k1, k2, k3, k4, k5⟩ := KC.out
        have q0 := pw_cell_below HB.out k0
        have q1 := pw_cell_below HB.out k1
        have q2 := pw_cell_below HB.out k2
        have q3 := pw_cell_below HB.out k3
        have q4 := pw_cell_below HB.out k4
        have q5 := pw_cell_below HB.out k5
        rw [Int.toNat_natCast] at hi hj
        have hi0 : wr.cell? ai = some (.int .u8 0) := by have h : wr.cell? (ai.add 0) = _ := hi0; rw [Addr.add_zero'] at h; exact h
        clear nl nm cl7 cm7 HCi HCj hr1 hr2 hr3 hr4 k0 k1 k2 k3 k4 k5 hj0 hli hlj
        go_wp2_with fail
        go_region_held3 (fun W => Aside0 (Below w7.heap.size w7 W) ∧ W.cell? (al.add kk) = some (.slice (some ai) (nv + 1) ci) ∧ W.cell? (am.add kk) = some (.slice (some bi) (nv + 1) di) ∧ W.cell? ai = some (.int .u8 0) ∧ W.cell? ⟨w.heap.size, 0, none⟩ = some (.int .i64 c.n) ∧ W.cell? ⟨w.heap.size, 1, none⟩ = some (.slice c.A1 c.L.length c.c1) ∧ W.cell? ⟨w.heap.size, 2, none⟩ = some (.slice c.A2 c.G.length c.c2) ∧ W.cell? ⟨w.heap.size, 3, none⟩ = some (.slice c.A3 c.O.length c.c3) ∧ W.cell? ⟨w.heap.size, 4, none⟩ = some (.slice c.A4 c.B.length c.c4) ∧ W.cell? ⟨w.heap.size, 5, none⟩ = some (.slice c.A5 c.K.length c.c5)) (first | exact HK.out | exact ⟨⟨below_drew1 HB.out⟩, hi, hj, hi0, q0, q1, q2, q3, q4, q5⟩)
          (first | (go_at_call 20; refine (HV.out _ (below_drew1 (below_step HW7.out HB.out))).mono ?_; rintro e w' ⟨rfl, hb⟩; have HK := Aside0.mk (show (fun W => Aside0 (Below w7.heap.size w7 W) ∧ W.cell? (al.add kk) = some (.slice (some ai) (nv + 1) ci) ∧ W.cell? (am.add kk) = some (.slice (some bi) (nv + 1) di) ∧ W.cell? ai = some (.int .u8 0) ∧ W.cell? ⟨w.heap.size, 0, none⟩ = some (.int .i64 c.n) ∧ W.cell? ⟨w.heap.size, 1, none⟩ = some (.slice c.A1 c.L.length c.c1) ∧ W.cell? ⟨w.heap.size, 2, none⟩ = some (.slice c.A2 c.G.length c.c2) ∧ W.cell? ⟨w.heap.size, 3, none⟩ = some (.slice c.A3 c.O.length c.c3) ∧ W.cell? ⟨w.heap.size, 4, none⟩ = some (.slice c.A4 c.B.length c.c4) ∧ W.cell? ⟨w.heap.size, 5, none⟩ = some (.slice c.A5 c.K.length c.c5)) w' from ⟨⟨below_step (below_drew1 HB.out) hb⟩, pw_cell_below hb hi, pw_cell_below hb hj, pw_cell_below hb hi0, pw_cell_below hb q0, pw_cell_below hb q1, pw_cell_below hb q2, pw_cell_below hb q3, pw_cell_below hb q4, pw_cell_below hb q5⟩); clear hb))
        have HK' := Aside0.mk HK.out.1.out
        clear HK q0 q1 q2 q3 q4 q5 hi hj hi0 hwr2
        go_wp2_with fail
        have CL7 := Aside0.mk (Kd.R_reads' (Kd.S_R HSl.out)).2.2
        have CM7 := Aside0.mk (Kd.R_reads' (Kd.S_R HSm.out)).2.2
        go_loopg [138] (nv + 1) (fun gg s138 wr2 => ∃ q : Nat, q ≤ nv + 1 ∧ nv + 1 - q ≤ gg ∧ s138 = .int .i64 q ∧ Aside0 (Below w7.heap.size w7 wr2))
        case atStart => exact ⟨0, by omega, by omega, rfl, HK'⟩
        case round =>
          obtain ⟨q, hq, hgq, rfl, HQ⟩ := hrel
          by_cases hql : q < nv + 1
          · have hqz : (q : Int) < (nv : Int) + 1 := by omega
            have hkl : kk < l.length := by have := HLF.out; omega
            have hkm : kk < m.length := by have := HML.out; omega
            obtain ⟨al', Ai', ci', e1, hi, hli, HCi⟩ := at_L4 (Kd.C_below CL7.out HQ.out) (kk : Int) (by omega) (by omega)
            obtain rfl := Option.some.inj e1
            obtain ⟨am', Bi', di', e2, hj, hlj, HCj⟩ := at_L4 (Kd.C_below CM7.out HQ.out) (kk : Int) (by omega) (by omega)
            obtain rfl := Option.some.inj e2
            rw [HR1.out] at hi hli
            rw [HR2.out] at hj hlj
            obtain ⟨ai', rfl, hiq⟩ := Kd.at_int HCi (q : Int) (by omega) (by rw [HR1.out]; omega)
            obtain ⟨bi', rfl, hjq⟩ := Kd.at_int HCj (q : Int) (by omega) (by rw [HR2.out]; omega)
            rw [Int.toNat_natCast] at hi hj hiq hjq
            have hxy : Ref (rd (rd_L4 l (kk : Int)) (q : Int)) (rd (rd_L4 m (kk : Int)) (q : Int)) := HRE.out.2 q (by rw [HR1.out]; omega)
            generalize rd (rd_L4 l (kk : Int)) (q : Int) = x at hiq hxy
            generalize rd (rd_L4 m (kk : Int)) (q : Int) = y at hjq hxy
            clear HCi HCj hli hlj e1 e2
            obtain ⟨hy, hx⟩ := hxy
            rcases hy with rfl | rfl <;> rcases hx with rfl | rfl
            all_goals go_wp2_with fail
            all_goals go_quiet (fail)
            all_goals go_wp2_with fail
            all_goals (
              go_roundg (nv + 1 - (q + 1))
              case measure => omega
              case rel => exact ⟨q + 1, by omega, by omega, by first | go_num | exact w64s q (by have := HNV.out; omega), ⟨pw_below_drewN HQ.out _⟩⟩)
          · obtain rfl : q = nv + 1 := by omega
            have hqz : ¬ (((nv + 1 : Nat) : Int) < (nv : Int) + 1) := by omega
            go_wp2_with fail
            go_roundg (t.F.length - (kk + 1))
            case measure => omega
            case rel => exact ⟨kk + 1, by omega, by omega, by first | go_num | exact w64s kk (by omega), HQ⟩
      · obtain rfl : kk = t.F.length := by omega
        have hnz : ¬ ((t.F.length : Int) < (t.F.length : Int)) := by omega
        go_wp2_with fail
        refine (liv07 _).mono ?_
        rintro e wz ⟨rfl, hb⟩
        have HBZ := below_step (below_step HW7.out HB.out) hb
        clear hb
        go_wp2_with fail
        go_ret
        exact ⟨rfl, HBZ⟩)
end Go.Proofs.YthpnooookkpkaaaDoor.F
namespace Go.Proofs.YthpnooookkpkaaaDoor.F
open Go.RowKit Go.Proofs.YthpnooookkpkaaaDoorW.PrintWords
/-- a circuit's numbers are of their kinds, however it lies -/
structure CK (c : Circ) : Prop where
  nn : -9223372036854775808 ≤ c.n ∧ c.n ≤ 9223372036854775807
  lL : c.L.length ≤ 9223372036854775807
  lG : c.G.length ≤ 9223372036854775807
  lO : c.O.length ≤ 9223372036854775807
  lB : c.B.length ≤ 9223372036854775807
  lK : c.K.length ≤ 9223372036854775807
  uL : ∀ x ∈ c.L, 0 ≤ x.f0 ∧ x.f0 < 4294967296 ∧ 0 ≤ x.f1 ∧ x.f1 < 256
  uG : ∀ g ∈ c.G, 0 ≤ g.f0 ∧ g.f0 < 4294967296 ∧ 0 ≤ g.f1 ∧ g.f1 < 4294967296
  uO : ∀ x ∈ c.O, 0 ≤ x ∧ x < 4294967296
  uB : ∀ x ∈ c.B, 0 ≤ x ∧ x < 4294967296
  uK : ∀ x ∈ c.K, 0 ≤ x ∧ x < 4294967296
theorem CK.kinds {c : Circ} (h : CK c) : Kinds c.n c.L c.G c.O c.B c.K :=
  ⟨h.nn, h.lL, h.lG, h.lO, h.lB, h.lK, fun x hx => ⟨(h.uL x hx).1, (h.uL x hx).2.1⟩, fun x hx => ⟨(h.uG x hx).1, (h.uG x hx).2.1⟩, h.uO, h.uB, h.uK⟩
theorem CK.wfB {c : Circ} (h : CK c) (h1 : c.L.length ≤ 1000000000000000) (h2 : c.G.length ≤ 1000000000000000) : wfB c.n c.L c.G c.O c.B c.K = true := by
  unfold F.wfB u32B
  simp only [Bool.and_eq_true, decide_eq_true_iff, List.all_eq_true]
  exact ⟨⟨⟨⟨⟨⟨⟨⟨h1, h2⟩, h.nn.1⟩, h.nn.2⟩, h.lO, h.uO⟩, h.lB, h.uB⟩, h.lK, h.uK⟩, fun x hx => ⟨⟨⟨(h.uL x hx).1, (h.uL x hx).2.1⟩, (h.uL x hx).2.2.1⟩, (h.uL x hx).2.2.2⟩⟩, fun x hx => ⟨⟨⟨(h.uG x hx).1, (h.uG x hx).2.1⟩, (h.uG x hx).2.2.1⟩, (h.uG x hx).2.2.2⟩⟩
structure TK (t : Trc) : Prop where
  lI : t.I.length ≤ 9223372036854775807
  lF : t.F.length ≤ 9223372036854775807
  lr : ∀ l ∈ t.F, l.length ≤ 9223372036854775807
  uI : ∀ x ∈ t.I, 0 ≤ x ∧ x < 256
  uF : ∀ l ∈ t.F, ∀ x ∈ l, 0 ≤ x ∧ x < 256
theorem TK.tw {t : Trc} (h : TK t) : twB t.I t.F = true := by
  unfold twB u8B
  simp only [Bool.and_eq_true, decide_eq_true_iff, List.all_eq_true]
  exact ⟨h.uI, h.uF⟩
theorem great_f (c : Circ) (t : Trc) : inquestlaw07_great.f c.n c.L c.G c.O c.B c.K t.bad t.I t.F = some true ∨
    (inquestlaw07_great.f c.n c.L c.G c.O c.B c.K t.bad t.I t.F = some false ∧ c.n ≤ 2000 ∧ c.L.length ≤ 300 ∧ c.G.length ≤ 300 ∧ c.K.length ≤ 300 ∧ t.F.length ≤ 300) := by
  unfold inquestlaw07_great.f
  by_cases h1 : c.n > 2000
  · rw [if_pos h1]; exact .inl rfl
  · rw [if_neg h1]
    by_cases h2 : (c.L.length : Int) > 300
    · rw [if_pos h2]; exact .inl rfl
    · rw [if_neg h2]
      by_cases h3 : (c.G.length : Int) > 300
      · rw [if_pos h3]; exact .inl rfl
      · rw [if_neg h3]
        by_cases h4 : (c.K.length : Int) > 300
        · rw [if_pos h4]; exact .inl rfl
        · rw [if_neg h4]
          by_cases h5 : (t.F.length : Int) > 300
          · rw [decide_eq_true h5]; exact .inl rfl
          · rw [decide_eq_false h5]; exact .inr ⟨rfl, by omega, by omega, by omega, by omega, by omega⟩
theorem SimSure_c (c : Circ) (t : Trc) (A : Option Addr) (cap : Nat) (bl : List Bool) (w : World) (hc : c.ok w) (ht : t.ok w) (hcap : bl.length ≤ cap) (hbl : Kd.C Kd.bool w A bl.length bl) (hck : CK c) (htk : TK t) :
    Calls Tryd.prog 3 #[c.val, t.val, .slice A bl.length cap] w fun e w' => e = .returned (.bool true) ∧ Below w.heap.size w w' := by
  rcases great_f c t with hg | ⟨hg, b1, b2, b3, b4, b5⟩
  · exact SimSure_great c t A cap bl w hc ht hg
  · have hw := hck.wfB (by omega) (by omega)
    have hu := htk.tw
    have hF := Fits_f hck.kinds t.bad t.I t.F htk.lI htk.lF htk.lr _ (Nat.le_refl _)
    by_cases hf : fitsB (pc c.n c.L c.G c.O c.B c.K) (pt t.bad t.I t.F) = true
    · obtain ⟨I', C, k, v, v', l, m, g1, g2, g3, g4, g5, g6, g7, g8, g9⟩ := sure_facts hw hu hf bl
      rw [hf] at hF
      have hm := (fitsB_iff hf).1
      obtain ⟨m1, m2, m3, _⟩ := mayB_iff hm
      have m1 : 0 ≤ c.n := m1
      have m2 : c.n ≤ 16384 := m2
      have hV := Vars_f hck.kinds hm _ (Nat.le_refl _)
      have hnv : c.n + c.L.length + c.G.length = ((c.n.toNat + c.L.length + c.G.length : Nat) : Int) := by omega
      rw [hnv] at hV
      refine SimSure_fit c t A cap bl w hc ht hcap hbl hg v (v' == 1) ?_ g1 _ hF I' C k g2 g3 l m g5 g6 b5 g8 g7.1.symm _ _ hV (by omega) (fun i h h' => ?_)
      · obtain ⟨q1, q2⟩ := g4
        rcases q2 with q2 | q2
        · exact .inl q2
        · subst q2
          exact .inr ⟨by rcases q1 with rfl | rfl <;> decide, rfl⟩
      · have r1 := g9 l[i] (List.getElem_mem h)
        have r2 := g7.2 i h h'
        exact ⟨by omega, by rw [← r2.1]; omega, r1.2, r2⟩
    · rw [Bool.not_eq_true] at hf
      rw [hf] at hF
      have hS : sim_Surely.f c.n c.L c.G c.O c.B c.K t.bad t.I t.F = some (0, 2) := by
        unfold sim_Surely.f
        rw [hw, hu, Bool.and_self, if_pos rfl, hf, if_neg (by decide)]
      exact SimSure_unfit c t A cap bl w hc ht hg hS _ hF
end Go.Proofs.YthpnooookkpkaaaDoor.F
