/- TernPlaces: for every input the call returns true, and each argument reads behind it as before. No condition. -/
import Derived.Test.YthpnooookkpkaaaMTernPlaces0
import Derived.Test.YthpnooookkpkaaaMTernPlaces2
import Derived.Test.YthpnooookkpkaaaMTernPlaces1
import Derived.Test.YthpnooookkpkaaaRows
import Derived.WalkKit
import Derived.ProofKit
import Derived.OpenShut
import Derived.ShutString
import Derived.ChangeOld
import Derived.Below
import Derived.SizedLaws
import Derived.Lib.SmallJoins
import Derived.Test.YthpnooookkpkaaaWSized
/- A function of the program as a plain Lean function, and that the machine's call comes to it: written by a program of this session over the kit's print. -/
namespace Go.Proofs.Ythpnooookkpkaaa.F
open Go.RowKit Go.Proofs.YthpnooookkpkaaaW.PrintWords Go.Proofs.YthpnooookkpkaaaW.PrintLast Go.Proofs.YthpnooookkpkaaaW.PrintMore
attribute [local go_sem] max2_int min2_int max_two min_two max_three min_three max_four min_four   -- for this text's walks alone
set_option linter.unusedVariables false
set_option linter.unusedSimpArgs false

attribute [local go_sem high] eqA24
/-! ### inquestlaw06_TernPlaces: function 5 -/
mutual
def inquestlaw06_TernPlaces.j0 : Nat → Int → Int → Bool → Int → Int → Int → Int → Option (Bool)
  | 0, _, _, _, _, _, _, _ => none
  | k + 1, x2, x3, x35, x102000, x102001, x103000, x103001 => if x35 = true then ((tern_All.f 0).bind fun bt105 => ((tern_And.f x102000 x102001 x103000 x103001).bind fun bt109 => (if (bt109.1 == bt105.1 && (bt109.2 == bt105.2.1)) = true then ((tern_Within.f x102000 x102001 x103000 x103001).bind fun t111 => (if t111 = 0 then ((inquestlaw06_lives.f).bind fun t112 => (some t112)) else (some false))) else (some false)))) else (inquestlaw06_TernPlaces.l0 k x2 x3 0 x102000 x102001 x103000 x103001)
def inquestlaw06_TernPlaces.l0 : Nat → Int → Int → Int → Int → Int → Int → Int → Option (Bool)
  | 0, _, _, _, _, _, _, _ => none
  | k + 1, x2, x3, x11, x102000, x102001, x103000, x103001 => if x11 < 64 then ((tern_At.f x102000 x102001 x11).bind fun bt113 => ((tern_At.f x103000 x103001 x11).bind fun bt115 => ((tern_Not.f x102000 x102001).bind fun bt117 => ((tern_At.f bt117.1 bt117.2 x11).bind fun bt119 => ((tern_And.f x102000 x102001 x103000 x103001).bind fun bt121 => ((tern_At.f bt121.1 bt121.2 x11).bind fun bt123 => (if bt113.2 = true then (if bt115.2 = true then ((tern_Not1.f bt113.1).bind fun t125 => (if bt119.1 = t125 then ((tern_And1.f k bt113.1 bt115.1).bind fun t126 => (if bt123.1 = t126 then (if bt113.1 > 2 then (some false) else (inquestlaw06_TernPlaces.l0 k x2 x3 (wrap64 (x11 + 1)) x102000 x102001 x103000 x103001)) else (some false))) else (some false))) else (some false)) else (some false)))))))) else ((tern_With.f x102000 x102001 x2 x3).bind fun bt127 => (if x2 ≥ 0 then (if x2 < 64 then (inquestlaw06_TernPlaces.j2 k x2 x3 bt127.2.2 ((bt127.2.2 == 0) != (decide (x3 ≤ 2))) x102000 x102001 bt127.1 bt127.2.1) else (inquestlaw06_TernPlaces.j2 k x2 x3 bt127.2.2 ((bt127.2.2 == 0) != false) x102000 x102001 bt127.1 bt127.2.1)) else (inquestlaw06_TernPlaces.j2 k x2 x3 bt127.2.2 ((bt127.2.2 == 0) != false) x102000 x102001 bt127.1 bt127.2.1)))
def inquestlaw06_TernPlaces.j2 : Nat → Int → Int → Int → Bool → Int → Int → Int → Int → Option (Bool)
  | 0, _, _, _, _, _, _, _, _ => none
  | k + 1, x2, x3, x21, x127, x102000, x102001, x131000, x131001 => if x127 = true then (some false) else (if x21 = 0 then ((tern_At.f x131000 x131001 x2).bind fun bt132 => ((tern_At.f x102000 x102001 x2).bind fun bt134 => ((tern_With.f x131000 x131001 x2 bt134.1).bind fun bt136 => (if bt132.2 = true then (if bt132.1 = x3 then (if (bt136.1 == x102000 && (bt136.2.1 == x102001)) = true then ((inquestlaw06_lives.f).bind fun t140 => (some t140)) else (some false)) else (some false)) else (some false))))) else ((inquestlaw06_lives.f).bind fun t131 => (some t131)))
end
def inquestlaw06_TernPlaces.f (k : Nat) (a0_0 : Int) (a0_1 : Int) (a1_0 : Int) (a1_1 : Int) (a2 : Int) (a3 : Int) : Option (Bool) := (tern_May.f a0_0 a0_1).bind fun t103 => (if t103 = true then ((tern_May.f a1_0 a1_1).bind fun t104 => (inquestlaw06_TernPlaces.j0 k a2 a3 (!t104) a0_0 a0_1 a1_0 a1_1)) else (inquestlaw06_TernPlaces.j0 k a2 a3 true a0_0 a0_1 a1_0 a1_1))
theorem inquestlaw06_TernPlaces.mono_l : ∀ k, (∀ y0 y1 y2 y3 y4 y5 y6, LeO (inquestlaw06_TernPlaces.j0 k y0 y1 y2 y3 y4 y5 y6) (inquestlaw06_TernPlaces.j0 (k + 1) y0 y1 y2 y3 y4 y5 y6)) ∧ (∀ y0 y1 y2 y3 y4 y5 y6, LeO (inquestlaw06_TernPlaces.l0 k y0 y1 y2 y3 y4 y5 y6) (inquestlaw06_TernPlaces.l0 (k + 1) y0 y1 y2 y3 y4 y5 y6)) ∧ (∀ y0 y1 y2 y3 y4 y5 y6 y7, LeO (inquestlaw06_TernPlaces.j2 k y0 y1 y2 y3 y4 y5 y6 y7) (inquestlaw06_TernPlaces.j2 (k + 1) y0 y1 y2 y3 y4 y5 y6 y7))
  | 0 => ⟨fun _ _ _ _ _ _ _ r h => by simp [inquestlaw06_TernPlaces.j0] at h, fun _ _ _ _ _ _ _ r h => by simp [inquestlaw06_TernPlaces.l0] at h, fun _ _ _ _ _ _ _ _ r h => by simp [inquestlaw06_TernPlaces.j2] at h⟩
  | k + 1 => by
    obtain ⟨ih0, ih1, ih2⟩ := inquestlaw06_TernPlaces.mono_l k
    refine ⟨?_, ?_, ?_⟩
    · intro y0 y1 y2 y3 y4 y5 y6
      unfold inquestlaw06_TernPlaces.j0
      repeat' first
      | (with_reducible exact ih0 _ _ _ _ _ _ _)
      | (with_reducible exact ih1 _ _ _ _ _ _ _)
      | (with_reducible exact ih2 _ _ _ _ _ _ _ _)
      | (with_reducible exact tern_And1.mono _ _ _)
      | (with_reducible exact LeO.refl _)
      | (with_reducible exact LeO.none _)
      | (with_reducible refine LeO.ite ?_ ?_)
      | (with_reducible refine LeO.bind ?_ (fun _ => ?_))
      | exact ih0 _ _ _ _ _ _ _
      | exact ih1 _ _ _ _ _ _ _
      | exact ih2 _ _ _ _ _ _ _ _
      | exact tern_And1.mono _ _ _
      | exact LeO.none _
      | refine LeO.ite ?_ ?_
      | refine LeO.bind ?_ (fun _ => ?_)
    · intro y0 y1 y2 y3 y4 y5 y6
      unfold inquestlaw06_TernPlaces.l0
      repeat' first
      | (with_reducible exact ih0 _ _ _ _ _ _ _)
      | (with_reducible exact ih1 _ _ _ _ _ _ _)
      | (with_reducible exact ih2 _ _ _ _ _ _ _ _)
      | (with_reducible exact tern_And1.mono _ _ _)
      | (with_reducible exact LeO.refl _)
      | (with_reducible exact LeO.none _)
      | (with_reducible refine LeO.ite ?_ ?_)
      | (with_reducible refine LeO.bind ?_ (fun _ => ?_))
      | exact ih0 _ _ _ _ _ _ _
      | exact ih1 _ _ _ _ _ _ _
      | exact ih2 _ _ _ _ _ _ _ _
      | exact tern_And1.mono _ _ _
      | exact LeO.none _
      | refine LeO.ite ?_ ?_
      | refine LeO.bind ?_ (fun _ => ?_)
    · intro y0 y1 y2 y3 y4 y5 y6 y7
      unfold inquestlaw06_TernPlaces.j2
      repeat' first
      | (with_reducible exact ih0 _ _ _ _ _ _ _)
      | (with_reducible exact ih1 _ _ _ _ _ _ _)
      | (with_reducible exact ih2 _ _ _ _ _ _ _ _)
      | (with_reducible exact tern_And1.mono _ _ _)
      | (with_reducible exact LeO.refl _)
      | (with_reducible exact LeO.none _)
      | (with_reducible refine LeO.ite ?_ ?_)
      | (with_reducible refine LeO.bind ?_ (fun _ => ?_))
      | exact ih0 _ _ _ _ _ _ _
      | exact ih1 _ _ _ _ _ _ _
      | exact ih2 _ _ _ _ _ _ _ _
      | exact tern_And1.mono _ _ _
      | exact LeO.none _
      | refine LeO.ite ?_ ?_
      | refine LeO.bind ?_ (fun _ => ?_)
theorem inquestlaw06_TernPlaces.mono : ∀ a0 a1 a2 a3 a4 a5 k, LeO (inquestlaw06_TernPlaces.f k a0 a1 a2 a3 a4 a5) (inquestlaw06_TernPlaces.f (k + 1) a0 a1 a2 a3 a4 a5) := by
  intro a0 a1 a2 a3 a4 a5 k
  obtain ⟨ih0, ih1, ih2⟩ := inquestlaw06_TernPlaces.mono_l k
  unfold inquestlaw06_TernPlaces.f
  repeat' first
      | (with_reducible exact ih0 _ _ _ _ _ _ _)
      | (with_reducible exact ih1 _ _ _ _ _ _ _)
      | (with_reducible exact ih2 _ _ _ _ _ _ _ _)
      | (with_reducible exact tern_And1.mono _ _ _)
      | (with_reducible exact LeO.refl _)
      | (with_reducible exact LeO.none _)
      | (with_reducible refine LeO.ite ?_ ?_)
      | (with_reducible refine LeO.bind ?_ (fun _ => ?_))
      | exact ih0 _ _ _ _ _ _ _
      | exact ih1 _ _ _ _ _ _ _
      | exact ih2 _ _ _ _ _ _ _ _
      | exact tern_And1.mono _ _ _
      | exact LeO.none _
      | refine LeO.ite ?_ ?_
      | refine LeO.bind ?_ (fun _ => ?_)
def inquestlaw06_TernPlaces.T3 : Bool × List (List Nat × List Nat) := (true, [([], []), ([], []), ([0, 1], [0, 1]), ([], []), ([2, 3], [2, 3]), ([4, 2], [4]), ([5], [5]), ([5], [5]), ([6, 7, 5, 5], [5, 6, 7]), ([8, 5], [5, 8]), ([5, 9], [5, 9]), ([10, 8], [10]), ([11, 11], [11]), ([11, 12], [11, 12]), ([13, 12, 0, 1, 2, 3, 4, 5, 6, 7, 8, 9, 10, 11, 12, 13], [13])])
def inquestlaw06_TernPlaces.B3 : List Nat := [0, 0, 3, 0, 15, 31, 63, 63, 255, 511, 1023, 2047, 4095, 8191, 16383]
theorem inquestlaw06_TernPlaces.tab3 : rtab .any (opsOf Try.f5 3) = inquestlaw06_TernPlaces.T3 := by kernel_rfl
theorem inquestlaw06_TernPlaces.bits3 : waitsOk inquestlaw06_TernPlaces.T3.2 inquestlaw06_TernPlaces.B3 = true := by kernel_rfl
set_option maxHeartbeats 8000000 in
set_option maxRecDepth 100000 in
theorem inquestlaw06_TernPlaces.calls (k : Nat) (a0_0 : Int) (a0_1 : Int) (a1_0 : Int) (a1_1 : Int) (a2 : Int) (a3 : Int) (r : Bool) (w : World) (hrt : Aside0 (r = true)) (h : inquestlaw06_TernPlaces.f k a0_0 a0_1 a1_0 a1_1 a2 a3 = some r) :
    Calls Try.prog 5 #[.agg #[.int .u64 a0_0, .int .u64 a0_1], .agg #[.int .u64 a1_0, .int .u64 a1_1], .int .i64 a2, .int .u8 a3] w fun e w' => e = .returned (.bool r) ∧ Below w.heap.size w w' := by
  have hu24 := Try.underlying24
  have HB := Aside0.mk (Below.refl w.heap.size w)
  have H : ((tern_May.f a0_0 a0_1).bind fun t103 => (if t103 = true then ((tern_May.f a1_0 a1_1).bind fun t104 => (inquestlaw06_TernPlaces.j0 k a2 a3 (!t104) a0_0 a0_1 a1_0 a1_1)) else (inquestlaw06_TernPlaces.j0 k a2 a3 true a0_0 a0_1 a1_0 a1_1))) = some r := h
  clear h
  have HC5 := Aside0.mk H
  clear H
  go_enter Try.func5, Try.ntmps5
  go_upto_region 1 with (first | ((with_reducible refine gate_dst (N := 4) rfl ?_); refine box_event ?hg (N := 4) ?hd (cs := #[.int .u64 a0_0, .int .u64 a0_1]) (t := 24) ?hr ?_; (case hd => rfl); (case hg => rfl); (case hr => first | (go_simp; done) | (go_simp; rfl)); intro gb101 hg w6 hbox hb; have n0_ := Aside0.mk (below_step (by repeat (first | (with_reducible first | exact HB.out | apply below_alloc | apply pw_below_drewN | apply below_drew1) | exact HB.out)) hb); have n1_ := Aside0.mk (hbox); have n2_ := Aside0.mk ((by rw [hg]; exact (below_size (by repeat (first | (with_reducible first | exact HB.out | apply below_alloc | apply pw_below_drewN | apply below_drew1) | exact HB.out))) : w.heap.size ≤ gb101)); have n3_ := Aside0.mk ((by rw [hg]; exact (below_size (by repeat (first | (with_reducible first | exact HB.out | apply below_alloc | apply pw_below_drewN | apply below_drew1) | exact HB.out))) : w.heap.size ≤ gb101)); clear HB; have HB := n0_; have BK101 := n1_; have GW101 := n2_; have GE101 := n3_; clear n0_ n1_ n2_ n3_; clear hb hbox hg) | ((with_reducible refine gate_dst (N := 5) rfl ?_); refine box_event ?hg (N := 5) ?hd (cs := #[.int .u64 a1_0, .int .u64 a1_1]) (t := 24) ?hr ?_; (case hd => rfl); (case hg => rfl); (case hr => first | (go_simp; done) | (go_simp; rfl)); intro gb102 hg w7 hbox hb; have n0_ := Aside0.mk (blk_below (g := gb101) (o := .cells #[.int .u64 a0_0, .int .u64 a0_1] 24 (0, 0)) (by (with_reducible repeat (first | refine blk_drewN ?_ _ | refine blk_drew ?_ | refine blk_alloc ?_ _)); exact BK101.out) hb); have n1_ := Aside0.mk (below_step (by repeat (first | (with_reducible first | exact HB.out | apply below_alloc | apply pw_below_drewN | apply below_drew1 | refine below_set ?_ GE101.out) | exact HB.out)) hb); have n2_ := Aside0.mk (hbox); have n3_ := Aside0.mk ((by rw [hg]; exact (below_size (by repeat (first | (with_reducible first | exact HB.out | apply below_alloc | apply pw_below_drewN | apply below_drew1 | refine below_set ?_ GE101.out) | exact HB.out))) : w.heap.size ≤ gb102)); have n4_ := Aside0.mk ((by rw [hg]; exact (below_size (by repeat (first | (with_reducible first | exact HB.out | apply below_alloc | apply pw_below_drewN | apply below_drew1 | refine below_set ?_ GE101.out) | exact HB.out))) : w.heap.size ≤ gb102)); have n5_ := Aside0.mk ((by rw [hg]; exact Nat.ne_of_lt (blk_lt (g := gb101) (o := .cells #[.int .u64 a0_0, .int .u64 a0_1] 24 (0, 0)) (by (with_reducible repeat (first | refine blk_drewN ?_ _ | refine blk_drew ?_ | refine blk_alloc ?_ _)); exact BK101.out)) : gb101 ≠ gb102)); have n6_ := Aside0.mk ((by rw [hg]; exact Nat.ne_of_gt (blk_lt (g := gb101) (o := .cells #[.int .u64 a0_0, .int .u64 a0_1] 24 (0, 0)) (by (with_reducible repeat (first | refine blk_drewN ?_ _ | refine blk_drew ?_ | refine blk_alloc ?_ _)); exact BK101.out)) : gb102 ≠ gb101)); clear BK101; clear HB; have BK101 := n0_; have HB := n1_; have BK102 := n2_; have GW102 := n3_; have GE102 := n4_; have NB101_102 := n5_; have NB102_101 := n6_; clear n0_ n1_ n2_ n3_ n4_ n5_ n6_; clear hb hbox hg))
  (try simp only [Act.put, List.setIfInBounds_toArray, List.set_cons_zero, List.set_cons_succ])
  go_cut [35] (fun v35 wc => ∃ (kq : Nat) (x35_4 : Bool), v35 = .bool x35_4 ∧ Aside0 (inquestlaw06_TernPlaces.j0 kq a2 a3 x35_4 a0_0 a0_1 a1_0 a1_1 = some r) ∧ Aside0 (kq ≤ k) ∧ Aside0 (wc.heap[gb101]? = some (.cells #[.int .u64 a0_0, .int .u64 a0_1] 24 (0, 0))) ∧ Aside0 (wc.heap[gb102]? = some (.cells #[.int .u64 a1_0, .int .u64 a1_1] 24 (0, 0))) ∧ Aside0 (Below w.heap.size w wc))
  case first =>
    have H := HC5.out
    clear HC5
    replace H := Option.bind_eq_some_iff.mp H
    obtain ⟨t103, A80, H⟩ := H
    replace H : (if t103 = true then ((tern_May.f a1_0 a1_1).bind fun t104 => (inquestlaw06_TernPlaces.j0 k a2 a3 (!t104) a0_0 a0_1 a1_0 a1_1)) else (inquestlaw06_TernPlaces.j0 k a2 a3 true a0_0 a0_1 a1_0 a1_1)) = some r := H
    have A8 := Aside0.mk A80
    clear A80
    by_cases c9 : t103 = true
    · subst c9
      have H1 : ((tern_May.f a1_0 a1_1).bind fun t104 => (inquestlaw06_TernPlaces.j0 k a2 a3 (!t104) a0_0 a0_1 a1_0 a1_1)) = some r := by rw [if_pos rfl] at H; exact H
      clear H
      have H := H1
      clear H1
      replace H := Option.bind_eq_some_iff.mp H
      obtain ⟨t104, A100, H⟩ := H
      replace H : (inquestlaw06_TernPlaces.j0 k a2 a3 (!t104) a0_0 a0_1 a1_0 a1_1) = some r := H
      have A10 := Aside0.mk A100
      clear A100
      have H' := Aside0.mk H
      clear H
      have hnb11 := NB101_102.out
      have hnc11 := NB102_101.out
      have hcz12_0 : w7.cell? ⟨gb101, 0, none⟩ = some (.int .u64 a0_0) := (blk_cell BK101.out 0).trans rfl
      have hcz12_1 : w7.cell? ⟨gb101, 1, none⟩ = some (.int .u64 a0_1) := (blk_cell BK101.out 1).trans rfl
      have hfz12_0 := blk_frozen BK101.out 0
      have hfz12_1 := blk_frozen BK101.out 1
      go_wp2_with (first | ((with_reducible refine gate_callee (f := 11) rfl ?_); refine goesL_ (some 29) rfl rfl Try.func11 (by kernel_rfl) rfl #[.agg #[.int .u64 a0_0, .int .u64 a0_1]] rfl (by (try simp only [List.map_toArray, List.map_cons, List.map_nil]); first | done | rfl | (simp only [List.length_drop, List.length_take]; rfl)) ?_; (with_reducible refine (tern_May.calls a0_0 a0_1 true _ A8.out).mono ?_); rintro e w13 ⟨rfl, hb⟩; refine ⟨_, rfl, ?_⟩; have n0_ := Aside0.mk (blk_below (g := gb101) (o := .cells #[.int .u64 a0_0, .int .u64 a0_1] 24 (0, 0)) (by (with_reducible repeat (first | refine blk_drewN ?_ _ | refine blk_drew ?_ | refine blk_alloc ?_ _)); exact BK101.out) hb); have n1_ := Aside0.mk (blk_below (g := gb102) (o := .cells #[.int .u64 a1_0, .int .u64 a1_1] 24 (0, 0)) (by (with_reducible repeat (first | refine blk_drewN ?_ _ | refine blk_drew ?_ | refine blk_alloc ?_ _)); exact BK102.out) hb); have n2_ := Aside0.mk (below_step (by repeat (first | (with_reducible first | exact HB.out | apply below_alloc | apply pw_below_drewN | apply below_drew1 | refine below_set ?_ GE101.out | refine below_set ?_ GE102.out) | exact HB.out)) hb); clear BK101; clear BK102; clear HB; have BK101 := n0_; have BK102 := n1_; have HB := n2_; clear n0_ n1_ n2_; (try clear hb); (try clear hb2); (try clear hk); (try clear hi); have hcz14_0 : w13.cell? ⟨gb102, 0, none⟩ = some (.int .u64 a1_0) := (blk_cell BK102.out 0).trans rfl; have hcz14_1 : w13.cell? ⟨gb102, 1, none⟩ = some (.int .u64 a1_1) := (blk_cell BK102.out 1).trans rfl; have hfz14_0 := blk_frozen BK102.out 0; have hfz14_1 := blk_frozen BK102.out 1) | (go_at_call 11; (with_reducible refine (tern_May.calls a1_0 a1_1 t104 _ A10.out).mono ?_); rintro e w15 ⟨rfl, hb⟩; have n0_ := Aside0.mk (blk_below (g := gb101) (o := .cells #[.int .u64 a0_0, .int .u64 a0_1] 24 (0, 0)) (by (with_reducible repeat (first | refine blk_drewN ?_ _ | refine blk_drew ?_ | refine blk_alloc ?_ _)); exact BK101.out) hb); have n1_ := Aside0.mk (blk_below (g := gb102) (o := .cells #[.int .u64 a1_0, .int .u64 a1_1] 24 (0, 0)) (by (with_reducible repeat (first | refine blk_drewN ?_ _ | refine blk_drew ?_ | refine blk_alloc ?_ _)); exact BK102.out) hb); have n2_ := Aside0.mk (below_step (by repeat (first | (with_reducible first | exact HB.out | apply below_alloc | apply pw_below_drewN | apply below_drew1 | refine below_set ?_ GE101.out | refine below_set ?_ GE102.out) | exact HB.out)) hb); clear BK101; clear BK102; clear HB; have BK101 := n0_; have BK102 := n1_; have HB := n2_; clear n0_ n1_ n2_; (try clear hb); (try clear hb2); (try clear hk); (try clear hi)))
      go_meet
      case rel => exact ⟨_, (!t104), (by first | rfl | (simp; done) | (simp [*]; done)), H', ⟨by first | omega | exact Nat.le_refl _⟩, ⟨by (with_reducible repeat (first | refine blk_drewN ?_ _ | refine blk_drew ?_ | refine blk_alloc ?_ _)); exact BK101.out⟩, ⟨by (with_reducible repeat (first | refine blk_drewN ?_ _ | refine blk_drew ?_ | refine blk_alloc ?_ _)); exact BK102.out⟩, ⟨by repeat (first | (with_reducible first | exact HB.out | apply below_alloc | apply pw_below_drewN | apply below_drew1 | refine below_set ?_ GE101.out | refine below_set ?_ GE102.out) | exact HB.out)⟩⟩
    · replace c9 := Bool.eq_false_iff.mpr c9
      subst c9
      have H1 : (inquestlaw06_TernPlaces.j0 k a2 a3 true a0_0 a0_1 a1_0 a1_1) = some r := by rw [if_neg (show ¬ (false = true) by decide)] at H; exact H
      clear H
      have H := H1
      clear H1
      have H' := Aside0.mk H
      clear H
      have hnb16 := NB101_102.out
      have hnc16 := NB102_101.out
      have hcz17_0 : w7.cell? ⟨gb101, 0, none⟩ = some (.int .u64 a0_0) := (blk_cell BK101.out 0).trans rfl
      have hcz17_1 : w7.cell? ⟨gb101, 1, none⟩ = some (.int .u64 a0_1) := (blk_cell BK101.out 1).trans rfl
      have hfz17_0 := blk_frozen BK101.out 0
      have hfz17_1 := blk_frozen BK101.out 1
      go_wp2_with (first | ((with_reducible refine gate_callee (f := 11) rfl ?_); refine goesL_ (some 29) rfl rfl Try.func11 (by kernel_rfl) rfl #[.agg #[.int .u64 a0_0, .int .u64 a0_1]] rfl (by (try simp only [List.map_toArray, List.map_cons, List.map_nil]); first | done | rfl | (simp only [List.length_drop, List.length_take]; rfl)) ?_; (with_reducible refine (tern_May.calls a0_0 a0_1 false _ A8.out).mono ?_); rintro e w18 ⟨rfl, hb⟩; refine ⟨_, rfl, ?_⟩; have n0_ := Aside0.mk (blk_below (g := gb101) (o := .cells #[.int .u64 a0_0, .int .u64 a0_1] 24 (0, 0)) (by (with_reducible repeat (first | refine blk_drewN ?_ _ | refine blk_drew ?_ | refine blk_alloc ?_ _)); exact BK101.out) hb); have n1_ := Aside0.mk (blk_below (g := gb102) (o := .cells #[.int .u64 a1_0, .int .u64 a1_1] 24 (0, 0)) (by (with_reducible repeat (first | refine blk_drewN ?_ _ | refine blk_drew ?_ | refine blk_alloc ?_ _)); exact BK102.out) hb); have n2_ := Aside0.mk (below_step (by repeat (first | (with_reducible first | exact HB.out | apply below_alloc | apply pw_below_drewN | apply below_drew1 | refine below_set ?_ GE101.out | refine below_set ?_ GE102.out) | exact HB.out)) hb); clear BK101; clear BK102; clear HB; have BK101 := n0_; have BK102 := n1_; have HB := n2_; clear n0_ n1_ n2_; (try clear hb); (try clear hb2); (try clear hk); (try clear hi)))
      go_meet
      case rel => exact ⟨_, (true), (by first | rfl | (simp; done) | (simp [*]; done)), H', ⟨by first | omega | exact Nat.le_refl _⟩, ⟨by (with_reducible repeat (first | refine blk_drewN ?_ _ | refine blk_drew ?_ | refine blk_alloc ?_ _)); exact BK101.out⟩, ⟨by (with_reducible repeat (first | refine blk_drewN ?_ _ | refine blk_drew ?_ | refine blk_alloc ?_ _)); exact BK102.out⟩, ⟨by repeat (first | (with_reducible first | exact HB.out | apply below_alloc | apply pw_below_drewN | apply below_drew1 | refine below_set ?_ GE101.out | refine below_set ?_ GE102.out) | exact HB.out)⟩⟩
  case rest =>
    clear HC5
    try clear c1
    try clear p2
    try clear c5
    try clear c9
    try clear c11
    try clear c16
    try clear hcz12_0
    try clear hcz12_1
    try clear hcz14_0
    try clear hcz14_1
    try clear hcz17_0
    try clear hcz17_1
    try clear hfz12_0
    try clear hfz12_1
    try clear hfz14_0
    try clear hfz14_1
    try clear hfz17_0
    try clear hfz17_1
    obtain ⟨kq, x35_4, rfl, HA, HJ4, BK101, BK102, HB⟩ := hcut
    cases kq with
    | zero => exact absurd HA.out (by simp [inquestlaw06_TernPlaces.j0])
    | succ kj4 =>
      have H := HA.out
      clear HA
      simp only [inquestlaw06_TernPlaces.j0] at H
      by_cases c19 : x35_4 = true
      · subst c19
        have H1 : ((tern_All.f 0).bind fun bt105 => ((tern_And.f a0_0 a0_1 a1_0 a1_1).bind fun bt109 => (if (bt109.1 == bt105.1 && (bt109.2 == bt105.2.1)) = true then ((tern_Within.f a0_0 a0_1 a1_0 a1_1).bind fun t111 => (if t111 = 0 then ((inquestlaw06_lives.f).bind fun t112 => (some t112)) else (some false))) else (some false)))) = some r := by rw [if_pos rfl] at H; exact H
        clear H
        have H := H1
        clear H1
        replace H := Option.bind_eq_some_iff.mp H
        obtain ⟨⟨t105, t106, t107⟩, A200, H⟩ := H
        replace H : ((tern_And.f a0_0 a0_1 a1_0 a1_1).bind fun bt109 => (if (bt109.1 == t105 && (bt109.2 == t106)) = true then ((tern_Within.f a0_0 a0_1 a1_0 a1_1).bind fun t111 => (if t111 = 0 then ((inquestlaw06_lives.f).bind fun t112 => (some t112)) else (some false))) else (some false))) = some r := H
        have A20 := Aside0.mk A200
        clear A200
        replace H := Option.bind_eq_some_iff.mp H
        obtain ⟨⟨t109, t110⟩, A210, H⟩ := H
        replace H : (if (t109 == t105 && (t110 == t106)) = true then ((tern_Within.f a0_0 a0_1 a1_0 a1_1).bind fun t111 => (if t111 = 0 then ((inquestlaw06_lives.f).bind fun t112 => (some t112)) else (some false))) else (some false)) = some r := H
        have A21 := Aside0.mk A210
        clear A210
        by_cases c22 : (t109 == t105 && (t110 == t106)) = true
        · rw [if_pos c22] at H
          have c22b0 : (t109 == t105 && (t110 == t106)) = true := c22
          (try (have c22b1 : decide (t109 = t105 && (t110 == t106)) = true := by simpa using c22))
          (try (have c22b2 : (t109 == t105 && (t110 == t106)) = true := by simpa using c22))
          clear c22
          replace H := Option.bind_eq_some_iff.mp H
          obtain ⟨t111, A230, H⟩ := H
          replace H : (if t111 = 0 then ((inquestlaw06_lives.f).bind fun t112 => (some t112)) else (some false)) = some r := H
          have A23 := Aside0.mk A230
          clear A230
          by_cases c24 : t111 = 0
          · rw [if_pos c24] at H
            have c24b0 : (t111 == 0) = true := beq_iff_eq.mpr c24
            have c24b1 : (t111 != 0) = false := bne_eq_false_iff_eq.mpr c24
            clear c24
            replace H := Option.bind_eq_some_iff.mp H
            obtain ⟨t112, A250, H⟩ := H
            replace H : (some t112) = some r := H
            have A25 := Aside0.mk A250
            clear A250
            obtain rfl := Option.some.inj H
            try go_wp2_with (first | ((with_reducible refine gate_callee (f := 19) rfl ?_); refine goesL_ (some 37) rfl rfl Try.func19 (by kernel_rfl) rfl #[.int .u8 0] rfl (by (try simp only [List.map_toArray, List.map_cons, List.map_nil]); first | done | rfl | (simp only [List.length_drop, List.length_take]; rfl)) ?_; (with_reducible refine (tern_All.calls 0 t105 t106 t107 _ A20.out).mono ?_); rintro e w26 ⟨rfl, hb⟩; refine ⟨_, rfl, ?_⟩; have n0_ := Aside0.mk (blk_below (g := gb101) (o := .cells #[.int .u64 a0_0, .int .u64 a0_1] 24 (0, 0)) (by (with_reducible repeat (first | refine blk_drewN ?_ _ | refine blk_drew ?_ | refine blk_alloc ?_ _)); exact BK101.out) hb); have n1_ := Aside0.mk (blk_below (g := gb102) (o := .cells #[.int .u64 a1_0, .int .u64 a1_1] 24 (0, 0)) (by (with_reducible repeat (first | refine blk_drewN ?_ _ | refine blk_drew ?_ | refine blk_alloc ?_ _)); exact BK102.out) hb); have n2_ := Aside0.mk (below_step (by repeat (first | (with_reducible first | exact HB.out | apply below_alloc | apply pw_below_drewN | apply below_drew1 | refine below_set ?_ GE101.out | refine below_set ?_ GE102.out) | exact HB.out)) hb); clear BK101; clear BK102; clear HB; have BK101 := n0_; have BK102 := n1_; have HB := n2_; clear n0_ n1_ n2_; (try clear hb); (try clear hb2); (try clear hk); (try clear hi)) | ((with_reducible refine gate_dst (N := 9) rfl ?_); refine box_event ?hg (N := 9) ?hd (cs := #[.int .u64 0, .int .u64 0]) (t := 24) ?hr ?_; (case hd => rfl); (case hg => rfl); (case hr => first | (go_simp; done) | (go_simp; rfl)); intro gb108 hg w27 hbox hb; have n0_ := Aside0.mk (blk_below (g := gb101) (o := .cells #[.int .u64 a0_0, .int .u64 a0_1] 24 (0, 0)) (by (with_reducible repeat (first | refine blk_drewN ?_ _ | refine blk_drew ?_ | refine blk_alloc ?_ _)); exact BK101.out) hb); have n1_ := Aside0.mk (blk_below (g := gb102) (o := .cells #[.int .u64 a1_0, .int .u64 a1_1] 24 (0, 0)) (by (with_reducible repeat (first | refine blk_drewN ?_ _ | refine blk_drew ?_ | refine blk_alloc ?_ _)); exact BK102.out) hb); have n2_ := Aside0.mk (below_step (by repeat (first | (with_reducible first | exact HB.out | apply below_alloc | apply pw_below_drewN | apply below_drew1 | refine below_set ?_ GE101.out | refine below_set ?_ GE102.out) | exact HB.out)) hb); have n3_ := Aside0.mk (hbox); have n4_ := Aside0.mk ((by rw [hg]; exact (below_size (by repeat (first | (with_reducible first | exact HB.out | apply below_alloc | apply pw_below_drewN | apply below_drew1 | refine below_set ?_ GE101.out | refine below_set ?_ GE102.out) | exact HB.out))) : w.heap.size ≤ gb108)); have n5_ := Aside0.mk ((by rw [hg]; exact (below_size (by repeat (first | (with_reducible first | exact HB.out | apply below_alloc | apply pw_below_drewN | apply below_drew1 | refine below_set ?_ GE101.out | refine below_set ?_ GE102.out) | exact HB.out))) : w.heap.size ≤ gb108)); have n6_ := Aside0.mk ((by rw [hg]; exact Nat.ne_of_lt (blk_lt (g := gb101) (o := .cells #[.int .u64 a0_0, .int .u64 a0_1] 24 (0, 0)) (by (with_reducible repeat (first | refine blk_drewN ?_ _ | refine blk_drew ?_ | refine blk_alloc ?_ _)); exact BK101.out)) : gb101 ≠ gb108)); have n7_ := Aside0.mk ((by rw [hg]; exact Nat.ne_of_gt (blk_lt (g := gb101) (o := .cells #[.int .u64 a0_0, .int .u64 a0_1] 24 (0, 0)) (by (with_reducible repeat (first | refine blk_drewN ?_ _ | refine blk_drew ?_ | refine blk_alloc ?_ _)); exact BK101.out)) : gb108 ≠ gb101)); have n8_ := Aside0.mk ((by rw [hg]; exact Nat.ne_of_lt (blk_lt (g := gb102) (o := .cells #[.int .u64 a1_0, .int .u64 a1_1] 24 (0, 0)) (by (with_reducible repeat (first | refine blk_drewN ?_ _ | refine blk_drew ?_ | refine blk_alloc ?_ _)); exact BK102.out)) : gb102 ≠ gb108)); have n9_ := Aside0.mk ((by rw [hg]; exact Nat.ne_of_gt (blk_lt (g := gb102) (o := .cells #[.int .u64 a1_0, .int .u64 a1_1] 24 (0, 0)) (by (with_reducible repeat (first | refine blk_drewN ?_ _ | refine blk_drew ?_ | refine blk_alloc ?_ _)); exact BK102.out)) : gb108 ≠ gb102)); clear BK101; clear BK102; clear HB; have BK101 := n0_; have BK102 := n1_; have HB := n2_; have BK108 := n3_; have GW108 := n4_; have GE108 := n5_; have NB101_108 := n6_; have NB108_101 := n7_; have NB102_108 := n8_; have NB108_102 := n9_; clear n0_ n1_ n2_ n3_ n4_ n5_ n6_ n7_ n8_ n9_; clear hb hbox hg; have hnb28 := NB108_101.out; have hnc28 := NB101_108.out; have hnb29 := NB108_102.out; have hnc29 := NB102_108.out; have hcz30_0 : w27.cell? ⟨gb108, 0, none⟩ = some (.int .u64 0) := (blk_cell BK108.out 0).trans rfl; have hcz30_1 : w27.cell? ⟨gb108, 1, none⟩ = some (.int .u64 0) := (blk_cell BK108.out 1).trans rfl; have hfz30_0 := blk_frozen BK108.out 0; have hfz30_1 := blk_frozen BK108.out 1))
            have n0_ : Aside0 (((w27.setCell ⟨gb108, 0, none⟩ (.int .u64 t105)).setCell ⟨gb108, 1, none⟩ (.int .u64 t106)).heap[gb101]? = some (.cells #[.int .u64 a0_0, .int .u64 a0_1] 24 (0, 0))) := ⟨by (with_reducible repeat (first | refine blk_drewN ?_ _ | refine blk_drew ?_ | refine blk_alloc ?_ _)); refine blk_far ?_ NB101_108.out _; (with_reducible repeat (first | refine blk_drewN ?_ _ | refine blk_drew ?_ | refine blk_alloc ?_ _)); refine blk_far ?_ NB101_108.out _; (with_reducible repeat (first | refine blk_drewN ?_ _ | refine blk_drew ?_ | refine blk_alloc ?_ _)); exact BK101.out⟩
            have n1_ : Aside0 (((w27.setCell ⟨gb108, 0, none⟩ (.int .u64 t105)).setCell ⟨gb108, 1, none⟩ (.int .u64 t106)).heap[gb102]? = some (.cells #[.int .u64 a1_0, .int .u64 a1_1] 24 (0, 0))) := ⟨by (with_reducible repeat (first | refine blk_drewN ?_ _ | refine blk_drew ?_ | refine blk_alloc ?_ _)); refine blk_far ?_ NB102_108.out _; (with_reducible repeat (first | refine blk_drewN ?_ _ | refine blk_drew ?_ | refine blk_alloc ?_ _)); refine blk_far ?_ NB102_108.out _; (with_reducible repeat (first | refine blk_drewN ?_ _ | refine blk_drew ?_ | refine blk_alloc ?_ _)); exact BK102.out⟩
            have n2_ : Aside0 (((w27.setCell ⟨gb108, 0, none⟩ (.int .u64 t105)).setCell ⟨gb108, 1, none⟩ (.int .u64 t106)).heap[gb108]? = some (.cells #[.int .u64 t105, .int .u64 t106] 24 (0, 0))) := ⟨by (with_reducible repeat (first | refine blk_drewN ?_ _ | refine blk_drew ?_ | refine blk_alloc ?_ _)); refine blk_put (cs := #[.int .u64 t105, .int .u64 0]) ?_ 1 _ rfl; (with_reducible repeat (first | refine blk_drewN ?_ _ | refine blk_drew ?_ | refine blk_alloc ?_ _)); refine blk_put (cs := #[.int .u64 0, .int .u64 0]) ?_ 0 _ rfl; (with_reducible repeat (first | refine blk_drewN ?_ _ | refine blk_drew ?_ | refine blk_alloc ?_ _)); exact BK108.out⟩
            have n3_ : Aside0 (Below w.heap.size w ((w27.setCell ⟨gb108, 0, none⟩ (.int .u64 t105)).setCell ⟨gb108, 1, none⟩ (.int .u64 t106))) := ⟨by repeat (first | (with_reducible first | exact HB.out | apply below_alloc | apply pw_below_drewN | apply below_drew1 | refine below_set ?_ GE101.out | refine below_set ?_ GE102.out | refine below_set ?_ GE108.out) | exact HB.out)⟩
            (try clear BK101)
            (try clear BK102)
            (try clear BK108)
            (try clear HB)
            generalize ((w27.setCell ⟨gb108, 0, none⟩ (.int .u64 t105)).setCell ⟨gb108, 1, none⟩ (.int .u64 t106)) = w31 at n0_ n1_ n2_ n3_ ⊢
            have BK101 := n0_
            have BK102 := n1_
            have BK108 := n2_
            have HB := n3_
            clear n0_ n1_ n2_ n3_
            have n0_ := Aside0.mk (blk_drew BK101.out)
            have n1_ := Aside0.mk (blk_drew BK102.out)
            have n2_ := Aside0.mk (blk_drew BK108.out)
            have n3_ := Aside0.mk (below_drew1 HB.out)
            clear BK101
            clear BK102
            clear BK108
            clear HB
            have BK101 := n0_
            have BK102 := n1_
            have BK108 := n2_
            have HB := n3_
            clear n0_ n1_ n2_ n3_
            refine start_ (n := 15) (S := fun w' => w'.cell? ⟨gb101, 0, none⟩ = some (.int .u64 a0_0) ∧ w'.cell? ⟨gb101, 1, none⟩ = some (.int .u64 a0_1) ∧ w'.cell? ⟨gb102, 0, none⟩ = some (.int .u64 a1_0) ∧ w'.cell? ⟨gb102, 1, none⟩ = some (.int .u64 a1_1) ∧ w'.cell? ⟨gb108, 0, none⟩ = some (.int .u64 t105) ∧ w'.cell? ⟨gb108, 1, none⟩ = some (.int .u64 t106)) (ds := []) #[false, false, false, false, false, false, false, false, false, false, false, false, false, false, false] (by kernel_rfl) rfl rfl ⟨(blk_cell BK101.out 0).trans rfl, (blk_cell BK101.out 1).trans rfl, (blk_cell BK102.out 0).trans rfl, (blk_cell BK102.out 1).trans rfl, (blk_cell BK108.out 0).trans rfl, (blk_cell BK108.out 1).trans rfl⟩ (fun hHeld => ?_); refine with_tabW inquestlaw06_TernPlaces.tab3 inquestlaw06_TernPlaces.bits3 (fun HT_ HW_ => ?_)
            generalize w31.drew = w32 at BK101 BK102 BK108 HB hHeld ⊢
            refine take_ (i := 0) (N := some 40) (v := ?_) (a' := ?_) #[true, false, false, false, false, false, false, false, false, false, false, false, false, false, false] rfl rfl (take_ofW HT_.out HW_.out (by kernel_rfl)) (fun _ _ _ h => h) (Or.inl ⟨by rfl, ?_⟩) hHeld ?_ ?_
            rotate_left
            · rintro w' ⟨s0, s1, s2, s3, s4, s5⟩
              go_simp
              with_reducible rfl
            rotate_left
            · simp only [Act.put, List.setIfInBounds_toArray, List.set_cons_zero, List.set_cons_succ, i64_w, i32_w]
              rfl
            refine take_ (i := 1) (N := some 41) (v := ?_) (a' := ?_) #[true, true, false, false, false, false, false, false, false, false, false, false, false, false, false] rfl rfl (take_ofW HT_.out HW_.out (by kernel_rfl)) (fun _ _ _ h => h) (Or.inl ⟨by rfl, ?_⟩) hHeld ?_ ?_
            rotate_left
            · rintro w' ⟨s0, s1, s2, s3, s4, s5⟩
              go_simp
              with_reducible rfl
            rotate_left
            · simp only [Act.put, List.setIfInBounds_toArray, List.set_cons_zero, List.set_cons_succ, i64_w, i32_w]
              rfl
            refine take_ (i := 3) (N := some 43) (v := ?_) (a' := ?_) #[true, true, false, true, false, false, false, false, false, false, false, false, false, false, false] rfl rfl (take_ofW HT_.out HW_.out (by kernel_rfl)) (fun _ _ _ h => h) (Or.inl ⟨by rfl, ?_⟩) hHeld ?_ ?_
            rotate_left
            · rintro w' ⟨s0, s1, s2, s3, s4, s5⟩
              go_simp
              with_reducible rfl
            rotate_left
            · simp only [Act.put, List.setIfInBounds_toArray, List.set_cons_zero, List.set_cons_succ, i64_w, i32_w]
              rfl
            refine one_ (i := 2) (N := some 42) #[true, true, true, true, false, false, false, false, false, false, false, false, false, false, false] rfl rfl (one_of HT_.out (by kernel_rfl)) (by decide) (fun K hK => ?_)
            refine goes_ Try.func15 (by kernel_rfl) rfl #[.agg #[.int .u64 a0_0, .int .u64 a0_1], .agg #[.int .u64 a1_0, .int .u64 a1_1]] (by rfl) rfl rfl (by (try simp only [List.map_toArray, List.map_cons, List.map_nil]); first | done | rfl | (simp only [List.length_drop, List.length_take]; rfl)) ?_
            with_reducible refine (tern_And.calls a0_0 a0_1 a1_0 a1_1 t109 t110 _ A21.out).mono ?_
            rintro e w33 ⟨rfl, hb⟩
            refine ⟨_, rfl, ?_⟩
            have n0_ := Aside0.mk (blk_below (g := gb101) (o := .cells #[.int .u64 a0_0, .int .u64 a0_1] 24 (0, 0)) (by (with_reducible repeat (first | refine blk_drewN ?_ _ | refine blk_drew ?_ | refine blk_alloc ?_ _)); exact BK101.out) hb)
            have n1_ := Aside0.mk (blk_below (g := gb102) (o := .cells #[.int .u64 a1_0, .int .u64 a1_1] 24 (0, 0)) (by (with_reducible repeat (first | refine blk_drewN ?_ _ | refine blk_drew ?_ | refine blk_alloc ?_ _)); exact BK102.out) hb)
            have n2_ := Aside0.mk (blk_below (g := gb108) (o := .cells #[.int .u64 t105, .int .u64 t106] 24 (0, 0)) (by (with_reducible repeat (first | refine blk_drewN ?_ _ | refine blk_drew ?_ | refine blk_alloc ?_ _)); exact BK108.out) hb)
            have n3_ := Aside0.mk (below_step (by repeat (first | (with_reducible first | exact HB.out | apply below_alloc | apply pw_below_drewN | apply below_drew1 | refine below_set ?_ GE101.out | refine below_set ?_ GE102.out | refine below_set ?_ GE108.out) | exact HB.out)) hb)
            clear BK101
            clear BK102
            clear BK108
            clear HB
            have BK101 := n0_
            have BK102 := n1_
            have BK108 := n2_
            have HB := n3_
            clear n0_ n1_ n2_ n3_
            (try clear hb)
            (try clear hb2)
            (try clear hk)
            (try clear hi)
            refine hK.out _ _ ⟨(blk_cell BK101.out 0).trans rfl, (blk_cell BK101.out 1).trans rfl, (blk_cell BK102.out 0).trans rfl, (blk_cell BK102.out 1).trans rfl, (blk_cell BK108.out 0).trans rfl, (blk_cell BK108.out 1).trans rfl⟩ (fun hHeld => ?_)
            clear hK K
            refine norm_ (a' := ?_) ?_ ?_
            rotate_left
            · show Act.put _ (some 42) _ = _
              simp only [Act.put, List.setIfInBounds_toArray, List.set_cons_zero, List.set_cons_succ, i64_w, i32_w]
              rfl
            refine pure_ (i := 4) (N := some 44) (v := ?_) (a' := ?_) #[true, true, true, true, true, false, false, false, false, false, false, false, false, false, false] rfl rfl (any_of HT_.out (by kernel_rfl)) (fun _ _ _ h => h) (Or.inl ⟨by rfl, ?_⟩) ?_ ?_
            rotate_left
            · intro w'
              go_simp
              with_reducible rfl
            rotate_left
            · simp only [Act.put, List.setIfInBounds_toArray, List.set_cons_zero, List.set_cons_succ, i64_w, i32_w]
              rfl
            refine pure_ (i := 5) (N := some 45) (v := ?_) (a' := ?_) #[true, true, true, true, true, true, false, false, false, false, false, false, false, false, false] rfl rfl (any_of HT_.out (by kernel_rfl)) (fun _ _ _ h => h) (Or.inl ⟨by rfl, ?_⟩) ?_ ?_
            rotate_left
            · intro w'
              go_simp
              with_reducible rfl
            rotate_left
            · simp only [Act.put, List.setIfInBounds_toArray, List.set_cons_zero, List.set_cons_succ, i64_w, i32_w]
              rfl
            refine take_ (i := 6) (N := some 46) (v := ?_) (a' := ?_) #[true, true, true, true, true, true, true, false, false, false, false, false, false, false, false] rfl rfl (take_ofW HT_.out HW_.out (by kernel_rfl)) (fun _ _ _ h => h) (Or.inl ⟨by rfl, ?_⟩) hHeld ?_ ?_
            rotate_left
            · rintro w' ⟨s0, s1, s2, s3, s4, s5⟩
              go_simp
              with_reducible rfl
            rotate_left
            · simp only [Act.put, List.setIfInBounds_toArray, List.set_cons_zero, List.set_cons_succ, i64_w, i32_w]
              rfl
            refine take_ (i := 7) (N := some 47) (v := ?_) (a' := ?_) #[true, true, true, true, true, true, true, true, false, false, false, false, false, false, false] rfl rfl (take_ofW HT_.out HW_.out (by kernel_rfl)) (fun _ _ _ h => h) (Or.inl ⟨by rfl, ?_⟩) hHeld ?_ ?_
            rotate_left
            · rintro w' ⟨s0, s1, s2, s3, s4, s5⟩
              go_simp
              with_reducible rfl
            rotate_left
            · simp only [Act.put, List.setIfInBounds_toArray, List.set_cons_zero, List.set_cons_succ, i64_w, i32_w]
              rfl
            refine one_ (i := 8) (N := some 48) #[true, true, true, true, true, true, true, true, true, false, false, false, false, false, false] rfl rfl (one_of HT_.out (by kernel_rfl)) (by decide) (fun K hK => ?_)
            refine goes_ Try.func13 (by kernel_rfl) rfl #[.agg #[.int .u64 a0_0, .int .u64 a0_1], .agg #[.int .u64 a1_0, .int .u64 a1_1]] (by rfl) rfl rfl (by (try simp only [List.map_toArray, List.map_cons, List.map_nil]); first | done | rfl | (simp only [List.length_drop, List.length_take]; rfl)) ?_
            with_reducible refine (tern_Within.calls a0_0 a0_1 a1_0 a1_1 t111 _ A23.out).mono ?_
            rintro e w34 ⟨rfl, hb⟩
            refine ⟨_, rfl, ?_⟩
            have n0_ := Aside0.mk (blk_below (g := gb101) (o := .cells #[.int .u64 a0_0, .int .u64 a0_1] 24 (0, 0)) (by (with_reducible repeat (first | refine blk_drewN ?_ _ | refine blk_drew ?_ | refine blk_alloc ?_ _)); exact BK101.out) hb)
            have n1_ := Aside0.mk (blk_below (g := gb102) (o := .cells #[.int .u64 a1_0, .int .u64 a1_1] 24 (0, 0)) (by (with_reducible repeat (first | refine blk_drewN ?_ _ | refine blk_drew ?_ | refine blk_alloc ?_ _)); exact BK102.out) hb)
            have n2_ := Aside0.mk (blk_below (g := gb108) (o := .cells #[.int .u64 t105, .int .u64 t106] 24 (0, 0)) (by (with_reducible repeat (first | refine blk_drewN ?_ _ | refine blk_drew ?_ | refine blk_alloc ?_ _)); exact BK108.out) hb)
            have n3_ := Aside0.mk (below_step (by repeat (first | (with_reducible first | exact HB.out | apply below_alloc | apply pw_below_drewN | apply below_drew1 | refine below_set ?_ GE101.out | refine below_set ?_ GE102.out | refine below_set ?_ GE108.out) | exact HB.out)) hb)
            clear BK101
            clear BK102
            clear BK108
            clear HB
            have BK101 := n0_
            have BK102 := n1_
            have BK108 := n2_
            have HB := n3_
            clear n0_ n1_ n2_ n3_
            (try clear hb)
            (try clear hb2)
            (try clear hk)
            (try clear hi)
            refine hK.out _ _ ⟨(blk_cell BK101.out 0).trans rfl, (blk_cell BK101.out 1).trans rfl, (blk_cell BK102.out 0).trans rfl, (blk_cell BK102.out 1).trans rfl, (blk_cell BK108.out 0).trans rfl, (blk_cell BK108.out 1).trans rfl⟩ (fun hHeld => ?_)
            clear hK K
            refine norm_ (a' := ?_) ?_ ?_
            rotate_left
            · show Act.put _ (some 48) _ = _
              simp only [Act.put, List.setIfInBounds_toArray, List.set_cons_zero, List.set_cons_succ, i64_w, i32_w]
              rfl
            refine pure_ (i := 9) (N := some 49) (v := ?_) (a' := ?_) #[true, true, true, true, true, true, true, true, true, true, false, false, false, false, false] rfl rfl (any_of HT_.out (by kernel_rfl)) (fun _ _ _ h => h) (Or.inl ⟨by rfl, ?_⟩) ?_ ?_
            rotate_left
            · intro w'
              go_simp
              with_reducible rfl
            rotate_left
            · simp only [Act.put, List.setIfInBounds_toArray, List.set_cons_zero, List.set_cons_succ, i64_w, i32_w]
              rfl
            refine pure_ (i := 10) (N := some 50) (v := ?_) (a' := ?_) #[true, true, true, true, true, true, true, true, true, true, true, false, false, false, false] rfl rfl (any_of HT_.out (by kernel_rfl)) (fun _ _ _ h => h) (Or.inl ⟨by rfl, ?_⟩) ?_ ?_
            rotate_left
            · intro w'
              go_simp
              with_reducible rfl
            rotate_left
            · simp only [Act.put, List.setIfInBounds_toArray, List.set_cons_zero, List.set_cons_succ, i64_w, i32_w]
              rfl
            refine pure_ (i := 11) (N := some 51) (v := ?_) (a' := ?_) #[true, true, true, true, true, true, true, true, true, true, true, true, false, false, false] rfl rfl (any_of HT_.out (by kernel_rfl)) (fun _ _ _ h => h) (Or.inl ⟨by rfl, ?_⟩) ?_ ?_
            rotate_left
            · intro w'
              go_simp
              with_reducible rfl
            rotate_left
            · simp only [Act.put, List.setIfInBounds_toArray, List.set_cons_zero, List.set_cons_succ, i64_w, i32_w]
              rfl
            refine one_ (i := 12) (N := some 52) #[true, true, true, true, true, true, true, true, true, true, true, true, true, false, false] rfl rfl (one_of HT_.out (by kernel_rfl)) (by decide) (fun K hK => ?_)
            refine goes_ Try.func12 (by kernel_rfl) rfl #[] (by rfl) rfl rfl (by (try simp only [List.map_toArray, List.map_cons, List.map_nil]); first | done | rfl | (simp only [List.length_drop, List.length_take]; rfl)) ?_
            with_reducible refine (inquestlaw06_lives.calls  t112 _ A25.out).mono ?_
            rintro e w35 ⟨rfl, hb⟩
            refine ⟨_, rfl, ?_⟩
            have n0_ := Aside0.mk (blk_below (g := gb101) (o := .cells #[.int .u64 a0_0, .int .u64 a0_1] 24 (0, 0)) (by (with_reducible repeat (first | refine blk_drewN ?_ _ | refine blk_drew ?_ | refine blk_alloc ?_ _)); exact BK101.out) hb)
            have n1_ := Aside0.mk (blk_below (g := gb102) (o := .cells #[.int .u64 a1_0, .int .u64 a1_1] 24 (0, 0)) (by (with_reducible repeat (first | refine blk_drewN ?_ _ | refine blk_drew ?_ | refine blk_alloc ?_ _)); exact BK102.out) hb)
            have n2_ := Aside0.mk (blk_below (g := gb108) (o := .cells #[.int .u64 t105, .int .u64 t106] 24 (0, 0)) (by (with_reducible repeat (first | refine blk_drewN ?_ _ | refine blk_drew ?_ | refine blk_alloc ?_ _)); exact BK108.out) hb)
            have n3_ := Aside0.mk (below_step (by repeat (first | (with_reducible first | exact HB.out | apply below_alloc | apply pw_below_drewN | apply below_drew1 | refine below_set ?_ GE101.out | refine below_set ?_ GE102.out | refine below_set ?_ GE108.out) | exact HB.out)) hb)
            clear BK101
            clear BK102
            clear BK108
            clear HB
            have BK101 := n0_
            have BK102 := n1_
            have BK108 := n2_
            have HB := n3_
            clear n0_ n1_ n2_ n3_
            (try clear hb)
            (try clear hb2)
            (try clear hk)
            (try clear hi)
            refine hK.out _ _ ⟨(blk_cell BK101.out 0).trans rfl, (blk_cell BK101.out 1).trans rfl, (blk_cell BK102.out 0).trans rfl, (blk_cell BK102.out 1).trans rfl, (blk_cell BK108.out 0).trans rfl, (blk_cell BK108.out 1).trans rfl⟩ (fun hHeld => ?_)
            clear hK K
            refine norm_ (a' := ?_) ?_ ?_
            rotate_left
            · show Act.put _ (some 52) _ = _
              simp only [Act.put, List.setIfInBounds_toArray, List.set_cons_zero, List.set_cons_succ, i64_w, i32_w]
              rfl
            refine pure_ (i := 13) (N := some 53) (v := ?_) (a' := ?_) #[true, true, true, true, true, true, true, true, true, true, true, true, true, true, false] rfl rfl (any_of HT_.out (by kernel_rfl)) (fun _ _ _ h => h) (Or.inl ⟨by rfl, ?_⟩) ?_ ?_
            rotate_left
            · intro w'
              go_simp
              with_reducible rfl
            rotate_left
            · simp only [Act.put, List.setIfInBounds_toArray, List.set_cons_zero, List.set_cons_succ, i64_w, i32_w]
              rfl
            refine pure_ (i := 14) (N := some 8) (v := ?_) (a' := ?_) #[true, true, true, true, true, true, true, true, true, true, true, true, true, true, true] rfl rfl (any_of HT_.out (by kernel_rfl)) (fun _ _ _ h => h) (Or.inl ⟨by rfl, ?_⟩) ?_ ?_
            rotate_left
            · intro w'
              go_simp
              with_reducible rfl
            rotate_left
            · simp only [Act.put, List.setIfInBounds_toArray, List.set_cons_zero, List.set_cons_succ, i64_w, i32_w]
              rfl
            refine done_ (done_of HT_.out (by kernel_rfl)) ?_
            try go_wp2
            go_ret
            exact ⟨by first | rfl | (simp [errW_none, errW_some] <;> rfl) | (simp [*, errW_none, errW_some] <;> rfl), by repeat (first | (with_reducible first | exact HB.out | apply below_alloc | apply pw_below_drewN | apply below_drew1 | refine below_set ?_ GE101.out | refine below_set ?_ GE102.out | refine below_set ?_ GE108.out) | exact HB.out)⟩
          · rw [if_neg c24] at H
            have c24b0 : (t111 == 0) = false := beq_eq_false_iff_ne.mpr c24
            have c24b1 : (t111 != 0) = true := bne_iff_ne.mpr c24
            exact absurd ((Option.some.inj H).trans hrt.out) (by simp)
        · rw [if_neg c22] at H
          have c22b0 : (t109 == t105 && (t110 == t106)) = false := by simpa using c22
          (try (have c22b1 : decide (t109 = t105 && (t110 == t106)) = false := by simpa using c22))
          (try (have c22b2 : (t109 == t105 && (t110 == t106)) = false := by simpa using c22))
          (try (have c22b3 : ¬ (t109 = t105 && (t110 == t106)) := by simpa using c22))
          clear c22
          exact absurd ((Option.some.inj H).trans hrt.out) (by simp)
      · replace c19 := Bool.eq_false_iff.mpr c19
        subst c19
        have H1 : (inquestlaw06_TernPlaces.l0 kj4 a2 a3 0 a0_0 a0_1 a1_0 a1_1) = some r := by rw [if_neg (show ¬ (false = true) by decide)] at H; exact H
        clear H
        have H := H1
        clear H1
        have H' := Aside0.mk H
        clear H
        go_wp2
        go_loopg [11] kj4 (fun kq v11 w' => ∃ (x11_2 : Int), v11 = .int .i64 x11_2 ∧ Aside0 (inquestlaw06_TernPlaces.l0 kq a2 a3 x11_2 a0_0 a0_1 a1_0 a1_1 = some r) ∧ Aside0 (kq ≤ kj4) ∧ Aside0 (w'.heap[gb101]? = some (.cells #[.int .u64 a0_0, .int .u64 a0_1] 24 (0, 0))) ∧ Aside0 (w'.heap[gb102]? = some (.cells #[.int .u64 a1_0, .int .u64 a1_1] 24 (0, 0))) ∧ Aside0 (Below w.heap.size w w'))
        case atStart => exact ⟨(0), (by first | rfl | (simp; done) | (simp [*]; done)), H', ⟨Nat.le_refl _⟩, ⟨by (with_reducible repeat (first | refine blk_drewN ?_ _ | refine blk_drew ?_ | refine blk_alloc ?_ _)); exact BK101.out⟩, ⟨by (with_reducible repeat (first | refine blk_drewN ?_ _ | refine blk_drew ?_ | refine blk_alloc ?_ _)); exact BK102.out⟩, ⟨by repeat (first | (with_reducible first | exact HB.out | apply below_alloc | apply pw_below_drewN | apply below_drew1 | refine below_set ?_ GE101.out | refine below_set ?_ GE102.out) | exact HB.out)⟩⟩
        case round =>
          clear H'
          try clear c1
          try clear c2
          try clear p2
          try clear c5
          try clear c9
          try clear c11
          try clear c12
          try clear c13
          try clear c15
          try clear c16
          try clear c19
          try clear c22
          try clear c22b0
          try clear c22b1
          try clear c22b2
          try clear c24
          try clear c24b0
          try clear c24b1
          try clear c28
          try clear c29
          try clear hcz12_0
          try clear hcz12_1
          try clear hcz14_0
          try clear hcz14_1
          try clear hcz17_0
          try clear hcz17_1
          try clear hcz30_0
          try clear hcz30_1
          try clear hfz12_0
          try clear hfz12_1
          try clear hfz14_0
          try clear hfz14_1
          try clear hfz17_0
          try clear hfz17_1
          try clear hfz30_0
          try clear hfz30_1
          try clear p2
          obtain ⟨x11_2, rfl, HA, HK2, BK101, BK102, HB⟩ := hrel
          cases gk with
          | zero => exact absurd HA.out (by simp [inquestlaw06_TernPlaces.l0])
          | succ k2 =>
            have H := HA.out
            clear HA
            simp only [inquestlaw06_TernPlaces.l0] at H
            by_cases c36 : x11_2 < 64
            · rw [if_pos c36] at H
              have c36b0 : decide (x11_2 < 64) = true := decide_eq_true c36
              clear c36
              replace H := Option.bind_eq_some_iff.mp H
              obtain ⟨⟨t113, t114⟩, A370, H⟩ := H
              replace H : ((tern_At.f a1_0 a1_1 x11_2).bind fun bt115 => ((tern_Not.f a0_0 a0_1).bind fun bt117 => ((tern_At.f bt117.1 bt117.2 x11_2).bind fun bt119 => ((tern_And.f a0_0 a0_1 a1_0 a1_1).bind fun bt121 => ((tern_At.f bt121.1 bt121.2 x11_2).bind fun bt123 => (if t114 = true then (if bt115.2 = true then ((tern_Not1.f t113).bind fun t125 => (if bt119.1 = t125 then ((tern_And1.f k2 t113 bt115.1).bind fun t126 => (if bt123.1 = t126 then (if t113 > 2 then (some false) else (inquestlaw06_TernPlaces.l0 k2 a2 a3 (wrap64 (x11_2 + 1)) a0_0 a0_1 a1_0 a1_1)) else (some false))) else (some false))) else (some false)) else (some false))))))) = some r := H
              have A37 := Aside0.mk A370
              clear A370
              replace H := Option.bind_eq_some_iff.mp H
              obtain ⟨⟨t115, t116⟩, A380, H⟩ := H
              replace H : ((tern_Not.f a0_0 a0_1).bind fun bt117 => ((tern_At.f bt117.1 bt117.2 x11_2).bind fun bt119 => ((tern_And.f a0_0 a0_1 a1_0 a1_1).bind fun bt121 => ((tern_At.f bt121.1 bt121.2 x11_2).bind fun bt123 => (if t114 = true then (if t116 = true then ((tern_Not1.f t113).bind fun t125 => (if bt119.1 = t125 then ((tern_And1.f k2 t113 t115).bind fun t126 => (if bt123.1 = t126 then (if t113 > 2 then (some false) else (inquestlaw06_TernPlaces.l0 k2 a2 a3 (wrap64 (x11_2 + 1)) a0_0 a0_1 a1_0 a1_1)) else (some false))) else (some false))) else (some false)) else (some false)))))) = some r := H
              have A38 := Aside0.mk A380
              clear A380
              replace H := Option.bind_eq_some_iff.mp H
              obtain ⟨⟨t117, t118⟩, A390, H⟩ := H
              replace H : ((tern_At.f t117 t118 x11_2).bind fun bt119 => ((tern_And.f a0_0 a0_1 a1_0 a1_1).bind fun bt121 => ((tern_At.f bt121.1 bt121.2 x11_2).bind fun bt123 => (if t114 = true then (if t116 = true then ((tern_Not1.f t113).bind fun t125 => (if bt119.1 = t125 then ((tern_And1.f k2 t113 t115).bind fun t126 => (if bt123.1 = t126 then (if t113 > 2 then (some false) else (inquestlaw06_TernPlaces.l0 k2 a2 a3 (wrap64 (x11_2 + 1)) a0_0 a0_1 a1_0 a1_1)) else (some false))) else (some false))) else (some false)) else (some false))))) = some r := H
              have A39 := Aside0.mk A390
              clear A390
              replace H := Option.bind_eq_some_iff.mp H
              obtain ⟨⟨t119, t120⟩, A400, H⟩ := H
              replace H : ((tern_And.f a0_0 a0_1 a1_0 a1_1).bind fun bt121 => ((tern_At.f bt121.1 bt121.2 x11_2).bind fun bt123 => (if t114 = true then (if t116 = true then ((tern_Not1.f t113).bind fun t125 => (if t119 = t125 then ((tern_And1.f k2 t113 t115).bind fun t126 => (if bt123.1 = t126 then (if t113 > 2 then (some false) else (inquestlaw06_TernPlaces.l0 k2 a2 a3 (wrap64 (x11_2 + 1)) a0_0 a0_1 a1_0 a1_1)) else (some false))) else (some false))) else (some false)) else (some false)))) = some r := H
              have A40 := Aside0.mk A400
              clear A400
              replace H := Option.bind_eq_some_iff.mp H
              obtain ⟨⟨t121, t122⟩, A410, H⟩ := H
              replace H : ((tern_At.f t121 t122 x11_2).bind fun bt123 => (if t114 = true then (if t116 = true then ((tern_Not1.f t113).bind fun t125 => (if t119 = t125 then ((tern_And1.f k2 t113 t115).bind fun t126 => (if bt123.1 = t126 then (if t113 > 2 then (some false) else (inquestlaw06_TernPlaces.l0 k2 a2 a3 (wrap64 (x11_2 + 1)) a0_0 a0_1 a1_0 a1_1)) else (some false))) else (some false))) else (some false)) else (some false))) = some r := H
              have A41 := Aside0.mk A410
              clear A410
              replace H := Option.bind_eq_some_iff.mp H
              obtain ⟨⟨t123, t124⟩, A420, H⟩ := H
              replace H : (if t114 = true then (if t116 = true then ((tern_Not1.f t113).bind fun t125 => (if t119 = t125 then ((tern_And1.f k2 t113 t115).bind fun t126 => (if t123 = t126 then (if t113 > 2 then (some false) else (inquestlaw06_TernPlaces.l0 k2 a2 a3 (wrap64 (x11_2 + 1)) a0_0 a0_1 a1_0 a1_1)) else (some false))) else (some false))) else (some false)) else (some false)) = some r := H
              have A42 := Aside0.mk A420
              clear A420
              by_cases c43 : t114 = true
              · subst c43
                have H1 : (if t116 = true then ((tern_Not1.f t113).bind fun t125 => (if t119 = t125 then ((tern_And1.f k2 t113 t115).bind fun t126 => (if t123 = t126 then (if t113 > 2 then (some false) else (inquestlaw06_TernPlaces.l0 k2 a2 a3 (wrap64 (x11_2 + 1)) a0_0 a0_1 a1_0 a1_1)) else (some false))) else (some false))) else (some false)) = some r := by rw [if_pos rfl] at H; exact H
                clear H
                have H := H1
                clear H1
                by_cases c44 : t116 = true
                · subst c44
                  have H1 : ((tern_Not1.f t113).bind fun t125 => (if t119 = t125 then ((tern_And1.f k2 t113 t115).bind fun t126 => (if t123 = t126 then (if t113 > 2 then (some false) else (inquestlaw06_TernPlaces.l0 k2 a2 a3 (wrap64 (x11_2 + 1)) a0_0 a0_1 a1_0 a1_1)) else (some false))) else (some false))) = some r := by rw [if_pos rfl] at H; exact H
                  clear H
                  have H := H1
                  clear H1
                  replace H := Option.bind_eq_some_iff.mp H
                  obtain ⟨t125, A450, H⟩ := H
                  replace H : (if t119 = t125 then ((tern_And1.f k2 t113 t115).bind fun t126 => (if t123 = t126 then (if t113 > 2 then (some false) else (inquestlaw06_TernPlaces.l0 k2 a2 a3 (wrap64 (x11_2 + 1)) a0_0 a0_1 a1_0 a1_1)) else (some false))) else (some false)) = some r := H
                  have A45 := Aside0.mk A450
                  clear A450
                  by_cases c46 : t119 = t125
                  · rw [if_pos c46] at H
                    have c46b0 : (t119 == t125) = true := beq_iff_eq.mpr c46
                    have c46b1 : (t119 != t125) = false := bne_eq_false_iff_eq.mpr c46
                    clear c46
                    replace H := Option.bind_eq_some_iff.mp H
                    obtain ⟨t126, A470, H⟩ := H
                    replace H : (if t123 = t126 then (if t113 > 2 then (some false) else (inquestlaw06_TernPlaces.l0 k2 a2 a3 (wrap64 (x11_2 + 1)) a0_0 a0_1 a1_0 a1_1)) else (some false)) = some r := H
                    have A47 := Aside0.mk A470
                    clear A470
                    by_cases c48 : t123 = t126
                    · rw [if_pos c48] at H
                      have c48b0 : (t123 == t126) = true := beq_iff_eq.mpr c48
                      have c48b1 : (t123 != t126) = false := bne_eq_false_iff_eq.mpr c48
                      clear c48
                      by_cases c49 : t113 > 2
                      · rw [if_pos c49] at H
                        have c49b0 : decide (2 < t113) = true := decide_eq_true c49
                        clear c49
                        exact absurd ((Option.some.inj H).trans hrt.out) (by simp)
                      · rw [if_neg c49] at H
                        have c49b0 : decide (2 < t113) = false := decide_eq_false c49
                        clear c49
                        have H' := Aside0.mk H
                        clear H
                        have hnb50 := NB101_102.out
                        have hnc50 := NB102_101.out
                        have hcz51_0 : wr.cell? ⟨gb101, 0, none⟩ = some (.int .u64 a0_0) := (blk_cell BK101.out 0).trans rfl
                        have hcz51_1 : wr.cell? ⟨gb101, 1, none⟩ = some (.int .u64 a0_1) := (blk_cell BK101.out 1).trans rfl
                        have hfz51_0 := blk_frozen BK101.out 0
                        have hfz51_1 := blk_frozen BK101.out 1
                        go_wp2_with (first | ((with_reducible refine gate_callee (f := 16) rfl ?_); refine goesL_ (some 61) rfl rfl Try.func16 (by kernel_rfl) rfl #[.agg #[.int .u64 a0_0, .int .u64 a0_1], .int .i64 x11_2] rfl (by (try simp only [List.map_toArray, List.map_cons, List.map_nil]); first | done | rfl | (simp only [List.length_drop, List.length_take]; rfl)) ?_; (with_reducible refine (tern_At.calls a0_0 a0_1 x11_2 t113 true _ A37.out).mono ?_); rintro e w52 ⟨rfl, hb⟩; refine ⟨_, rfl, ?_⟩; have n0_ := Aside0.mk (blk_below (g := gb101) (o := .cells #[.int .u64 a0_0, .int .u64 a0_1] 24 (0, 0)) (by (with_reducible repeat (first | refine blk_drewN ?_ _ | refine blk_drew ?_ | refine blk_alloc ?_ _)); exact BK101.out) hb); have n1_ := Aside0.mk (blk_below (g := gb102) (o := .cells #[.int .u64 a1_0, .int .u64 a1_1] 24 (0, 0)) (by (with_reducible repeat (first | refine blk_drewN ?_ _ | refine blk_drew ?_ | refine blk_alloc ?_ _)); exact BK102.out) hb); have n2_ := Aside0.mk (below_step (by repeat (first | (with_reducible first | exact HB.out | apply below_alloc | apply pw_below_drewN | apply below_drew1 | refine below_set ?_ GE101.out | refine below_set ?_ GE102.out) | exact HB.out)) hb); clear BK101; clear BK102; clear HB; have BK101 := n0_; have BK102 := n1_; have HB := n2_; clear n0_ n1_ n2_; (try clear hb); (try clear hb2); (try clear hk); (try clear hi); have hcz53_0 : w52.cell? ⟨gb102, 0, none⟩ = some (.int .u64 a1_0) := (blk_cell BK102.out 0).trans rfl; have hcz53_1 : w52.cell? ⟨gb102, 1, none⟩ = some (.int .u64 a1_1) := (blk_cell BK102.out 1).trans rfl; have hfz53_0 := blk_frozen BK102.out 0; have hfz53_1 := blk_frozen BK102.out 1) | ((with_reducible refine gate_callee (f := 16) rfl ?_); refine goesL_ (some 67) rfl rfl Try.func16 (by kernel_rfl) rfl #[.agg #[.int .u64 a1_0, .int .u64 a1_1], .int .i64 x11_2] rfl (by (try simp only [List.map_toArray, List.map_cons, List.map_nil]); first | done | rfl | (simp only [List.length_drop, List.length_take]; rfl)) ?_; (with_reducible refine (tern_At.calls a1_0 a1_1 x11_2 t115 true _ A38.out).mono ?_); rintro e w54 ⟨rfl, hb⟩; refine ⟨_, rfl, ?_⟩; have n0_ := Aside0.mk (blk_below (g := gb101) (o := .cells #[.int .u64 a0_0, .int .u64 a0_1] 24 (0, 0)) (by (with_reducible repeat (first | refine blk_drewN ?_ _ | refine blk_drew ?_ | refine blk_alloc ?_ _)); exact BK101.out) hb); have n1_ := Aside0.mk (blk_below (g := gb102) (o := .cells #[.int .u64 a1_0, .int .u64 a1_1] 24 (0, 0)) (by (with_reducible repeat (first | refine blk_drewN ?_ _ | refine blk_drew ?_ | refine blk_alloc ?_ _)); exact BK102.out) hb); have n2_ := Aside0.mk (below_step (by repeat (first | (with_reducible first | exact HB.out | apply below_alloc | apply pw_below_drewN | apply below_drew1 | refine below_set ?_ GE101.out | refine below_set ?_ GE102.out) | exact HB.out)) hb); clear BK101; clear BK102; clear HB; have BK101 := n0_; have BK102 := n1_; have HB := n2_; clear n0_ n1_ n2_; (try clear hb); (try clear hb2); (try clear hk); (try clear hi); have hcz55_0 : w54.cell? ⟨gb101, 0, none⟩ = some (.int .u64 a0_0) := (blk_cell BK101.out 0).trans rfl; have hcz55_1 : w54.cell? ⟨gb101, 1, none⟩ = some (.int .u64 a0_1) := (blk_cell BK101.out 1).trans rfl; have hfz55_0 := blk_frozen BK101.out 0; have hfz55_1 := blk_frozen BK101.out 1) | ((with_reducible refine gate_callee (f := 14) rfl ?_); refine goesL_ (some 72) rfl rfl Try.func14 (by kernel_rfl) rfl #[.agg #[.int .u64 a0_0, .int .u64 a0_1]] rfl (by (try simp only [List.map_toArray, List.map_cons, List.map_nil]); first | done | rfl | (simp only [List.length_drop, List.length_take]; rfl)) ?_; (with_reducible refine (tern_Not.calls a0_0 a0_1 t117 t118 _ A39.out).mono ?_); rintro e w56 ⟨rfl, hb⟩; refine ⟨_, rfl, ?_⟩; have n0_ := Aside0.mk (blk_below (g := gb101) (o := .cells #[.int .u64 a0_0, .int .u64 a0_1] 24 (0, 0)) (by (with_reducible repeat (first | refine blk_drewN ?_ _ | refine blk_drew ?_ | refine blk_alloc ?_ _)); exact BK101.out) hb); have n1_ := Aside0.mk (blk_below (g := gb102) (o := .cells #[.int .u64 a1_0, .int .u64 a1_1] 24 (0, 0)) (by (with_reducible repeat (first | refine blk_drewN ?_ _ | refine blk_drew ?_ | refine blk_alloc ?_ _)); exact BK102.out) hb); have n2_ := Aside0.mk (below_step (by repeat (first | (with_reducible first | exact HB.out | apply below_alloc | apply pw_below_drewN | apply below_drew1 | refine below_set ?_ GE101.out | refine below_set ?_ GE102.out) | exact HB.out)) hb); clear BK101; clear BK102; clear HB; have BK101 := n0_; have BK102 := n1_; have HB := n2_; clear n0_ n1_ n2_; (try clear hb); (try clear hb2); (try clear hk); (try clear hi)) | ((with_reducible refine gate_callee (f := 16) rfl ?_); refine goesL_ (some 74) rfl rfl Try.func16 (by kernel_rfl) rfl #[.agg #[.int .u64 t117, .int .u64 t118], .int .i64 x11_2] rfl (by (try simp only [List.map_toArray, List.map_cons, List.map_nil]); first | done | rfl | (simp only [List.length_drop, List.length_take]; rfl)) ?_; (with_reducible refine (tern_At.calls t117 t118 x11_2 t119 t120 _ A40.out).mono ?_); rintro e w57 ⟨rfl, hb⟩; refine ⟨_, rfl, ?_⟩; have n0_ := Aside0.mk (blk_below (g := gb101) (o := .cells #[.int .u64 a0_0, .int .u64 a0_1] 24 (0, 0)) (by (with_reducible repeat (first | refine blk_drewN ?_ _ | refine blk_drew ?_ | refine blk_alloc ?_ _)); exact BK101.out) hb); have n1_ := Aside0.mk (blk_below (g := gb102) (o := .cells #[.int .u64 a1_0, .int .u64 a1_1] 24 (0, 0)) (by (with_reducible repeat (first | refine blk_drewN ?_ _ | refine blk_drew ?_ | refine blk_alloc ?_ _)); exact BK102.out) hb); have n2_ := Aside0.mk (below_step (by repeat (first | (with_reducible first | exact HB.out | apply below_alloc | apply pw_below_drewN | apply below_drew1 | refine below_set ?_ GE101.out | refine below_set ?_ GE102.out) | exact HB.out)) hb); clear BK101; clear BK102; clear HB; have BK101 := n0_; have BK102 := n1_; have HB := n2_; clear n0_ n1_ n2_; (try clear hb); (try clear hb2); (try clear hk); (try clear hi); have hcz58_0 : w57.cell? ⟨gb101, 0, none⟩ = some (.int .u64 a0_0) := (blk_cell BK101.out 0).trans rfl; have hcz58_1 : w57.cell? ⟨gb101, 1, none⟩ = some (.int .u64 a0_1) := (blk_cell BK101.out 1).trans rfl; have hfz58_0 := blk_frozen BK101.out 0; have hfz58_1 := blk_frozen BK101.out 1; have hcz59_0 : w57.cell? ⟨gb102, 0, none⟩ = some (.int .u64 a1_0) := (blk_cell BK102.out 0).trans rfl; have hcz59_1 : w57.cell? ⟨gb102, 1, none⟩ = some (.int .u64 a1_1) := (blk_cell BK102.out 1).trans rfl; have hfz59_0 := blk_frozen BK102.out 0; have hfz59_1 := blk_frozen BK102.out 1) | ((with_reducible refine gate_callee (f := 15) rfl ?_); refine goesL_ (some 80) rfl rfl Try.func15 (by kernel_rfl) rfl #[.agg #[.int .u64 a0_0, .int .u64 a0_1], .agg #[.int .u64 a1_0, .int .u64 a1_1]] rfl (by (try simp only [List.map_toArray, List.map_cons, List.map_nil]); first | done | rfl | (simp only [List.length_drop, List.length_take]; rfl)) ?_; (with_reducible refine (tern_And.calls a0_0 a0_1 a1_0 a1_1 t121 t122 _ A41.out).mono ?_); rintro e w60 ⟨rfl, hb⟩; refine ⟨_, rfl, ?_⟩; have n0_ := Aside0.mk (blk_below (g := gb101) (o := .cells #[.int .u64 a0_0, .int .u64 a0_1] 24 (0, 0)) (by (with_reducible repeat (first | refine blk_drewN ?_ _ | refine blk_drew ?_ | refine blk_alloc ?_ _)); exact BK101.out) hb); have n1_ := Aside0.mk (blk_below (g := gb102) (o := .cells #[.int .u64 a1_0, .int .u64 a1_1] 24 (0, 0)) (by (with_reducible repeat (first | refine blk_drewN ?_ _ | refine blk_drew ?_ | refine blk_alloc ?_ _)); exact BK102.out) hb); have n2_ := Aside0.mk (below_step (by repeat (first | (with_reducible first | exact HB.out | apply below_alloc | apply pw_below_drewN | apply below_drew1 | refine below_set ?_ GE101.out | refine below_set ?_ GE102.out) | exact HB.out)) hb); clear BK101; clear BK102; clear HB; have BK101 := n0_; have BK102 := n1_; have HB := n2_; clear n0_ n1_ n2_; (try clear hb); (try clear hb2); (try clear hk); (try clear hi)) | ((with_reducible refine gate_callee (f := 16) rfl ?_); refine goesL_ (some 82) rfl rfl Try.func16 (by kernel_rfl) rfl #[.agg #[.int .u64 t121, .int .u64 t122], .int .i64 x11_2] rfl (by (try simp only [List.map_toArray, List.map_cons, List.map_nil]); first | done | rfl | (simp only [List.length_drop, List.length_take]; rfl)) ?_; (with_reducible refine (tern_At.calls t121 t122 x11_2 t123 t124 _ A42.out).mono ?_); rintro e w61 ⟨rfl, hb⟩; refine ⟨_, rfl, ?_⟩; have n0_ := Aside0.mk (blk_below (g := gb101) (o := .cells #[.int .u64 a0_0, .int .u64 a0_1] 24 (0, 0)) (by (with_reducible repeat (first | refine blk_drewN ?_ _ | refine blk_drew ?_ | refine blk_alloc ?_ _)); exact BK101.out) hb); have n1_ := Aside0.mk (blk_below (g := gb102) (o := .cells #[.int .u64 a1_0, .int .u64 a1_1] 24 (0, 0)) (by (with_reducible repeat (first | refine blk_drewN ?_ _ | refine blk_drew ?_ | refine blk_alloc ?_ _)); exact BK102.out) hb); have n2_ := Aside0.mk (below_step (by repeat (first | (with_reducible first | exact HB.out | apply below_alloc | apply pw_below_drewN | apply below_drew1 | refine below_set ?_ GE101.out | refine below_set ?_ GE102.out) | exact HB.out)) hb); clear BK101; clear BK102; clear HB; have BK101 := n0_; have BK102 := n1_; have HB := n2_; clear n0_ n1_ n2_; (try clear hb); (try clear hb2); (try clear hk); (try clear hi)) | (go_at_call 28; (with_reducible refine (tern_Not1.calls t113 t125 _ A45.out).mono ?_); rintro e w' ⟨rfl, ⟨nd, rfl⟩⟩) | (go_at_call 30; (with_reducible refine (tern_And1.calls k2 t113 t115 t126 _ A47.out).mono ?_); rintro e w' ⟨rfl, ⟨nd, rfl⟩⟩))
                        go_roundg k2
                        case measure => have := HJ4.out; have := HK2.out; omega
                        case rel => exact ⟨(wrap64 (x11_2 + 1)), (by first | rfl | (simp; done) | (simp [*]; done)), H', ⟨by have := HJ4.out; have := HK2.out; omega⟩, ⟨by (with_reducible repeat (first | refine blk_drewN ?_ _ | refine blk_drew ?_ | refine blk_alloc ?_ _)); exact BK101.out⟩, ⟨by (with_reducible repeat (first | refine blk_drewN ?_ _ | refine blk_drew ?_ | refine blk_alloc ?_ _)); exact BK102.out⟩, ⟨by repeat (first | (with_reducible first | exact HB.out | apply below_alloc | apply pw_below_drewN | apply below_drew1 | refine below_set ?_ GE101.out | refine below_set ?_ GE102.out) | exact HB.out)⟩⟩
                    · rw [if_neg c48] at H
                      have c48b0 : (t123 == t126) = false := beq_eq_false_iff_ne.mpr c48
                      have c48b1 : (t123 != t126) = true := bne_iff_ne.mpr c48
                      exact absurd ((Option.some.inj H).trans hrt.out) (by simp)
                  · rw [if_neg c46] at H
                    have c46b0 : (t119 == t125) = false := beq_eq_false_iff_ne.mpr c46
                    have c46b1 : (t119 != t125) = true := bne_iff_ne.mpr c46
                    exact absurd ((Option.some.inj H).trans hrt.out) (by simp)
                · replace c44 := Bool.eq_false_iff.mpr c44
                  subst c44
                  have H1 : (some false) = some r := by rw [if_neg (show ¬ (false = true) by decide)] at H; exact H
                  clear H
                  have H := H1
                  clear H1
                  exact absurd ((Option.some.inj H).trans hrt.out) (by simp)
              · replace c43 := Bool.eq_false_iff.mpr c43
                subst c43
                have H1 : (some false) = some r := by rw [if_neg (show ¬ (false = true) by decide)] at H; exact H
                clear H
                have H := H1
                clear H1
                exact absurd ((Option.some.inj H).trans hrt.out) (by simp)
            · rw [if_neg c36] at H
              have c36b0 : decide (x11_2 < 64) = false := decide_eq_false c36
              clear c36
              replace H := Option.bind_eq_some_iff.mp H
              obtain ⟨⟨t127, t128, t129⟩, A620, H⟩ := H
              replace H : (if a2 ≥ 0 then (if a2 < 64 then (inquestlaw06_TernPlaces.j2 k2 a2 a3 t129 ((t129 == 0) != (decide (a3 ≤ 2))) a0_0 a0_1 t127 t128) else (inquestlaw06_TernPlaces.j2 k2 a2 a3 t129 ((t129 == 0) != false) a0_0 a0_1 t127 t128)) else (inquestlaw06_TernPlaces.j2 k2 a2 a3 t129 ((t129 == 0) != false) a0_0 a0_1 t127 t128)) = some r := H
              have A62 := Aside0.mk A620
              clear A620
              have HC63 := Aside0.mk H
              clear H
              have hnb64 := NB101_102.out
              have hnc64 := NB102_101.out
              have hcz65_0 : wr.cell? ⟨gb101, 0, none⟩ = some (.int .u64 a0_0) := (blk_cell BK101.out 0).trans rfl
              have hcz65_1 : wr.cell? ⟨gb101, 1, none⟩ = some (.int .u64 a0_1) := (blk_cell BK101.out 1).trans rfl
              have hfz65_0 := blk_frozen BK101.out 0
              have hfz65_1 := blk_frozen BK101.out 1
              go_upto_region 14 with (first | ((with_reducible refine gate_callee (f := 23) rfl ?_); refine goesL_ (some 112) rfl rfl Try.func23 (by kernel_rfl) rfl #[.agg #[.int .u64 a0_0, .int .u64 a0_1], .int .i64 a2, .int .u8 a3] rfl (by (try simp only [List.map_toArray, List.map_cons, List.map_nil]); first | done | rfl | (simp only [List.length_drop, List.length_take]; rfl)) ?_; (with_reducible refine (tern_With.calls a0_0 a0_1 a2 a3 t127 t128 t129 _ A62.out).mono ?_); rintro e w66 ⟨rfl, hb⟩; refine ⟨_, rfl, ?_⟩; have n0_ := Aside0.mk (blk_below (g := gb101) (o := .cells #[.int .u64 a0_0, .int .u64 a0_1] 24 (0, 0)) (by (with_reducible repeat (first | refine blk_drewN ?_ _ | refine blk_drew ?_ | refine blk_alloc ?_ _)); exact BK101.out) hb); have n1_ := Aside0.mk (blk_below (g := gb102) (o := .cells #[.int .u64 a1_0, .int .u64 a1_1] 24 (0, 0)) (by (with_reducible repeat (first | refine blk_drewN ?_ _ | refine blk_drew ?_ | refine blk_alloc ?_ _)); exact BK102.out) hb); have n2_ := Aside0.mk (below_step (by repeat (first | (with_reducible first | exact HB.out | apply below_alloc | apply pw_below_drewN | apply below_drew1 | refine below_set ?_ GE101.out | refine below_set ?_ GE102.out) | exact HB.out)) hb); clear BK101; clear BK102; clear HB; have BK101 := n0_; have BK102 := n1_; have HB := n2_; clear n0_ n1_ n2_; (try clear hb); (try clear hb2); (try clear hk); (try clear hi)) | ((with_reducible refine gate_dst (N := 20) rfl ?_); refine box_event ?hg (N := 20) ?hd (cs := #[.int .u64 0, .int .u64 0]) (t := 24) ?hr ?_; (case hd => rfl); (case hg => rfl); (case hr => first | (go_simp; done) | (go_simp; rfl)); intro gb130 hg w67 hbox hb; have n0_ := Aside0.mk (blk_below (g := gb101) (o := .cells #[.int .u64 a0_0, .int .u64 a0_1] 24 (0, 0)) (by (with_reducible repeat (first | refine blk_drewN ?_ _ | refine blk_drew ?_ | refine blk_alloc ?_ _)); exact BK101.out) hb); have n1_ := Aside0.mk (blk_below (g := gb102) (o := .cells #[.int .u64 a1_0, .int .u64 a1_1] 24 (0, 0)) (by (with_reducible repeat (first | refine blk_drewN ?_ _ | refine blk_drew ?_ | refine blk_alloc ?_ _)); exact BK102.out) hb); have n2_ := Aside0.mk (below_step (by repeat (first | (with_reducible first | exact HB.out | apply below_alloc | apply pw_below_drewN | apply below_drew1 | refine below_set ?_ GE101.out | refine below_set ?_ GE102.out) | exact HB.out)) hb); have n3_ := Aside0.mk (hbox); have n4_ := Aside0.mk ((by rw [hg]; exact (below_size (by repeat (first | (with_reducible first | exact HB.out | apply below_alloc | apply pw_below_drewN | apply below_drew1 | refine below_set ?_ GE101.out | refine below_set ?_ GE102.out) | exact HB.out))) : w.heap.size ≤ gb130)); have n5_ := Aside0.mk ((by rw [hg]; exact (below_size (by repeat (first | (with_reducible first | exact HB.out | apply below_alloc | apply pw_below_drewN | apply below_drew1 | refine below_set ?_ GE101.out | refine below_set ?_ GE102.out) | exact HB.out))) : w.heap.size ≤ gb130)); have n6_ := Aside0.mk ((by rw [hg]; exact Nat.ne_of_lt (blk_lt (g := gb101) (o := .cells #[.int .u64 a0_0, .int .u64 a0_1] 24 (0, 0)) (by (with_reducible repeat (first | refine blk_drewN ?_ _ | refine blk_drew ?_ | refine blk_alloc ?_ _)); exact BK101.out)) : gb101 ≠ gb130)); have n7_ := Aside0.mk ((by rw [hg]; exact Nat.ne_of_gt (blk_lt (g := gb101) (o := .cells #[.int .u64 a0_0, .int .u64 a0_1] 24 (0, 0)) (by (with_reducible repeat (first | refine blk_drewN ?_ _ | refine blk_drew ?_ | refine blk_alloc ?_ _)); exact BK101.out)) : gb130 ≠ gb101)); have n8_ := Aside0.mk ((by rw [hg]; exact Nat.ne_of_lt (blk_lt (g := gb102) (o := .cells #[.int .u64 a1_0, .int .u64 a1_1] 24 (0, 0)) (by (with_reducible repeat (first | refine blk_drewN ?_ _ | refine blk_drew ?_ | refine blk_alloc ?_ _)); exact BK102.out)) : gb102 ≠ gb130)); have n9_ := Aside0.mk ((by rw [hg]; exact Nat.ne_of_gt (blk_lt (g := gb102) (o := .cells #[.int .u64 a1_0, .int .u64 a1_1] 24 (0, 0)) (by (with_reducible repeat (first | refine blk_drewN ?_ _ | refine blk_drew ?_ | refine blk_alloc ?_ _)); exact BK102.out)) : gb130 ≠ gb102)); clear BK101; clear BK102; clear HB; have BK101 := n0_; have BK102 := n1_; have HB := n2_; have BK130 := n3_; have GW130 := n4_; have GE130 := n5_; have NB101_130 := n6_; have NB130_101 := n7_; have NB102_130 := n8_; have NB130_102 := n9_; clear n0_ n1_ n2_ n3_ n4_ n5_ n6_ n7_ n8_ n9_; clear hb hbox hg; have hnb68 := NB130_101.out; have hnc68 := NB101_130.out; have hnb69 := NB130_102.out; have hnc69 := NB102_130.out; have hcz70_0 : w67.cell? ⟨gb130, 0, none⟩ = some (.int .u64 0) := (blk_cell BK130.out 0).trans rfl; have hcz70_1 : w67.cell? ⟨gb130, 1, none⟩ = some (.int .u64 0) := (blk_cell BK130.out 1).trans rfl; have hfz70_0 := blk_frozen BK130.out 0; have hfz70_1 := blk_frozen BK130.out 1))
              (try simp only [Act.put, List.setIfInBounds_toArray, List.set_cons_zero, List.set_cons_succ])
              go_cut [127] (fun v127 wc => ∃ (kq : Nat) (x127_62 : Bool), v127 = .bool x127_62 ∧ Aside0 (inquestlaw06_TernPlaces.j2 kq a2 a3 t129 x127_62 a0_0 a0_1 t127 t128 = some r) ∧ Aside0 (kq ≤ k2) ∧ Aside0 (wc.heap[gb101]? = some (.cells #[.int .u64 a0_0, .int .u64 a0_1] 24 (0, 0))) ∧ Aside0 (wc.heap[gb102]? = some (.cells #[.int .u64 a1_0, .int .u64 a1_1] 24 (0, 0))) ∧ Aside0 (wc.heap[gb130]? = some (.cells #[.int .u64 t127, .int .u64 t128] 24 (0, 0))) ∧ Aside0 (Below w.heap.size w wc))
              case first =>
                have H := HC63.out
                clear HC63
                by_cases c71 : a2 ≥ 0
                · rw [if_pos c71] at H
                  have c71b0 : decide (0 ≤ a2) = true := decide_eq_true c71
                  clear c71
                  (first | rw [c71b0] | (simp only [i64_w, i32_w]; rw [c71b0]) | skip)
                  by_cases c72 : a2 < 64
                  · rw [if_pos c72] at H
                    have c72b0 : decide (a2 < 64) = true := decide_eq_true c72
                    clear c72
                    have H' := Aside0.mk H
                    clear H
                    go_wp2
                    go_meet
                    case rel => exact ⟨_, (((t129 == 0) != (decide (a3 ≤ 2)))), (by first | rfl | (simp; done) | (simp [*]; done)), H', ⟨by have := HJ4.out; have := HK2.out; first | omega | exact Nat.le_refl _⟩, ⟨by (with_reducible repeat (first | refine blk_drewN ?_ _ | refine blk_drew ?_ | refine blk_alloc ?_ _)); refine blk_far ?_ NB101_130.out _; (with_reducible repeat (first | refine blk_drewN ?_ _ | refine blk_drew ?_ | refine blk_alloc ?_ _)); refine blk_far ?_ NB101_130.out _; (with_reducible repeat (first | refine blk_drewN ?_ _ | refine blk_drew ?_ | refine blk_alloc ?_ _)); exact BK101.out⟩, ⟨by (with_reducible repeat (first | refine blk_drewN ?_ _ | refine blk_drew ?_ | refine blk_alloc ?_ _)); refine blk_far ?_ NB102_130.out _; (with_reducible repeat (first | refine blk_drewN ?_ _ | refine blk_drew ?_ | refine blk_alloc ?_ _)); refine blk_far ?_ NB102_130.out _; (with_reducible repeat (first | refine blk_drewN ?_ _ | refine blk_drew ?_ | refine blk_alloc ?_ _)); exact BK102.out⟩, ⟨by (with_reducible repeat (first | refine blk_drewN ?_ _ | refine blk_drew ?_ | refine blk_alloc ?_ _)); refine blk_put (cs := #[.int .u64 t127, .int .u64 0]) ?_ 1 _ rfl; (with_reducible repeat (first | refine blk_drewN ?_ _ | refine blk_drew ?_ | refine blk_alloc ?_ _)); refine blk_put (cs := #[.int .u64 0, .int .u64 0]) ?_ 0 _ rfl; (with_reducible repeat (first | refine blk_drewN ?_ _ | refine blk_drew ?_ | refine blk_alloc ?_ _)); exact BK130.out⟩, ⟨by repeat (first | (with_reducible first | exact HB.out | apply below_alloc | apply pw_below_drewN | apply below_drew1 | refine below_set ?_ GE101.out | refine below_set ?_ GE102.out | refine below_set ?_ GE130.out) | exact HB.out)⟩⟩
                  · rw [if_neg c72] at H
                    have c72b0 : decide (a2 < 64) = false := decide_eq_false c72
                    clear c72
                    have H' := Aside0.mk H
                    clear H
                    go_wp2
                    go_meet
                    case rel => exact ⟨_, (((t129 == 0) != false)), (by first | rfl | (simp; done) | (simp [*]; done)), H', ⟨by have := HJ4.out; have := HK2.out; first | omega | exact Nat.le_refl _⟩, ⟨by (with_reducible repeat (first | refine blk_drewN ?_ _ | refine blk_drew ?_ | refine blk_alloc ?_ _)); refine blk_far ?_ NB101_130.out _; (with_reducible repeat (first | refine blk_drewN ?_ _ | refine blk_drew ?_ | refine blk_alloc ?_ _)); refine blk_far ?_ NB101_130.out _; (with_reducible repeat (first | refine blk_drewN ?_ _ | refine blk_drew ?_ | refine blk_alloc ?_ _)); exact BK101.out⟩, ⟨by (with_reducible repeat (first | refine blk_drewN ?_ _ | refine blk_drew ?_ | refine blk_alloc ?_ _)); refine blk_far ?_ NB102_130.out _; (with_reducible repeat (first | refine blk_drewN ?_ _ | refine blk_drew ?_ | refine blk_alloc ?_ _)); refine blk_far ?_ NB102_130.out _; (with_reducible repeat (first | refine blk_drewN ?_ _ | refine blk_drew ?_ | refine blk_alloc ?_ _)); exact BK102.out⟩, ⟨by (with_reducible repeat (first | refine blk_drewN ?_ _ | refine blk_drew ?_ | refine blk_alloc ?_ _)); refine blk_put (cs := #[.int .u64 t127, .int .u64 0]) ?_ 1 _ rfl; (with_reducible repeat (first | refine blk_drewN ?_ _ | refine blk_drew ?_ | refine blk_alloc ?_ _)); refine blk_put (cs := #[.int .u64 0, .int .u64 0]) ?_ 0 _ rfl; (with_reducible repeat (first | refine blk_drewN ?_ _ | refine blk_drew ?_ | refine blk_alloc ?_ _)); exact BK130.out⟩, ⟨by repeat (first | (with_reducible first | exact HB.out | apply below_alloc | apply pw_below_drewN | apply below_drew1 | refine below_set ?_ GE101.out | refine below_set ?_ GE102.out | refine below_set ?_ GE130.out) | exact HB.out)⟩⟩
                · rw [if_neg c71] at H
                  have c71b0 : decide (0 ≤ a2) = false := decide_eq_false c71
                  clear c71
                  (first | rw [c71b0] | (simp only [i64_w, i32_w]; rw [c71b0]) | skip)
                  have H' := Aside0.mk H
                  clear H
                  go_wp2
                  go_meet
                  case rel => exact ⟨_, (((t129 == 0) != false)), (by first | rfl | (simp; done) | (simp [*]; done)), H', ⟨by have := HJ4.out; have := HK2.out; first | omega | exact Nat.le_refl _⟩, ⟨by (with_reducible repeat (first | refine blk_drewN ?_ _ | refine blk_drew ?_ | refine blk_alloc ?_ _)); refine blk_far ?_ NB101_130.out _; (with_reducible repeat (first | refine blk_drewN ?_ _ | refine blk_drew ?_ | refine blk_alloc ?_ _)); refine blk_far ?_ NB101_130.out _; (with_reducible repeat (first | refine blk_drewN ?_ _ | refine blk_drew ?_ | refine blk_alloc ?_ _)); exact BK101.out⟩, ⟨by (with_reducible repeat (first | refine blk_drewN ?_ _ | refine blk_drew ?_ | refine blk_alloc ?_ _)); refine blk_far ?_ NB102_130.out _; (with_reducible repeat (first | refine blk_drewN ?_ _ | refine blk_drew ?_ | refine blk_alloc ?_ _)); refine blk_far ?_ NB102_130.out _; (with_reducible repeat (first | refine blk_drewN ?_ _ | refine blk_drew ?_ | refine blk_alloc ?_ _)); exact BK102.out⟩, ⟨by (with_reducible repeat (first | refine blk_drewN ?_ _ | refine blk_drew ?_ | refine blk_alloc ?_ _)); refine blk_put (cs := #[.int .u64 t127, .int .u64 0]) ?_ 1 _ rfl; (with_reducible repeat (first | refine blk_drewN ?_ _ | refine blk_drew ?_ | refine blk_alloc ?_ _)); refine blk_put (cs := #[.int .u64 0, .int .u64 0]) ?_ 0 _ rfl; (with_reducible repeat (first | refine blk_drewN ?_ _ | refine blk_drew ?_ | refine blk_alloc ?_ _)); exact BK130.out⟩, ⟨by repeat (first | (with_reducible first | exact HB.out | apply below_alloc | apply pw_below_drewN | apply below_drew1 | refine below_set ?_ GE101.out | refine below_set ?_ GE102.out | refine below_set ?_ GE130.out) | exact HB.out)⟩⟩
              case rest =>
                clear HC63
                try clear c1
                try clear c2
                try clear p2
                try clear c3
                try clear c4
                try clear c5
                try clear c6
                try clear p6
                try clear c7
                try clear c9
                try clear c11
                try clear c12
                try clear c13
                try clear c14
                try clear c15
                try clear c16
                try clear c19
                try clear c22
                try clear c22b0
                try clear c22b1
                try clear c22b2
                try clear c23
                try clear c24
                try clear c24b0
                try clear c24b1
                try clear c28
                try clear c29
                try clear c36
                try clear c36b0
                try clear c43
                try clear c44
                try clear c46
                try clear c46b0
                try clear c46b1
                try clear c48
                try clear c48b0
                try clear c48b1
                try clear c49
                try clear c49b0
                try clear c50
                try clear c64
                try clear p64
                try clear c68
                try clear c69
                try clear c71
                try clear c71b0
                try clear c72
                try clear c72b0
                try clear hcz12_0
                try clear hcz12_1
                try clear hcz14_0
                try clear hcz14_1
                try clear hcz17_0
                try clear hcz17_1
                try clear hcz30_0
                try clear hcz30_1
                try clear hcz51_0
                try clear hcz51_1
                try clear hcz53_0
                try clear hcz53_1
                try clear hcz55_0
                try clear hcz55_1
                try clear hcz58_0
                try clear hcz58_1
                try clear hcz59_0
                try clear hcz59_1
                try clear hcz65_0
                try clear hcz65_1
                try clear hcz70_0
                try clear hcz70_1
                try clear hfz12_0
                try clear hfz12_1
                try clear hfz14_0
                try clear hfz14_1
                try clear hfz17_0
                try clear hfz17_1
                try clear hfz30_0
                try clear hfz30_1
                try clear hfz51_0
                try clear hfz51_1
                try clear hfz53_0
                try clear hfz53_1
                try clear hfz55_0
                try clear hfz55_1
                try clear hfz58_0
                try clear hfz58_1
                try clear hfz59_0
                try clear hfz59_1
                try clear hfz65_0
                try clear hfz65_1
                try clear hfz70_0
                try clear hfz70_1
                try clear p2
                obtain ⟨kq, x127_62, rfl, HA, HJ62, BK101, BK102, BK130, HB⟩ := hcut
                cases kq with
                | zero => exact absurd HA.out (by simp [inquestlaw06_TernPlaces.j2])
                | succ kj62 =>
                  have H := HA.out
                  clear HA
                  simp only [inquestlaw06_TernPlaces.j2] at H
                  by_cases c73 : x127_62 = true
                  · subst c73
                    have H1 : (some false) = some r := by rw [if_pos rfl] at H; exact H
                    clear H
                    have H := H1
                    clear H1
                    exact absurd ((Option.some.inj H).trans hrt.out) (by simp)
                  · replace c73 := Bool.eq_false_iff.mpr c73
                    subst c73
                    have H1 : (if t129 = 0 then ((tern_At.f t127 t128 a2).bind fun bt132 => ((tern_At.f a0_0 a0_1 a2).bind fun bt134 => ((tern_With.f t127 t128 a2 bt134.1).bind fun bt136 => (if bt132.2 = true then (if bt132.1 = a3 then (if (bt136.1 == a0_0 && (bt136.2.1 == a0_1)) = true then ((inquestlaw06_lives.f).bind fun t140 => (some t140)) else (some false)) else (some false)) else (some false))))) else ((inquestlaw06_lives.f).bind fun t131 => (some t131))) = some r := by rw [if_neg (show ¬ (false = true) by decide)] at H; exact H
                    clear H
                    have H := H1
                    clear H1
                    by_cases c74 : t129 = 0
                    · rw [if_pos c74] at H
                      have c74b0 : (t129 == 0) = true := beq_iff_eq.mpr c74
                      have c74b1 : (t129 != 0) = false := bne_eq_false_iff_eq.mpr c74
                      clear c74
                      replace H := Option.bind_eq_some_iff.mp H
                      obtain ⟨⟨t132, t133⟩, A750, H⟩ := H
                      replace H : ((tern_At.f a0_0 a0_1 a2).bind fun bt134 => ((tern_With.f t127 t128 a2 bt134.1).bind fun bt136 => (if t133 = true then (if t132 = a3 then (if (bt136.1 == a0_0 && (bt136.2.1 == a0_1)) = true then ((inquestlaw06_lives.f).bind fun t140 => (some t140)) else (some false)) else (some false)) else (some false)))) = some r := H
                      have A75 := Aside0.mk A750
                      clear A750
                      replace H := Option.bind_eq_some_iff.mp H
                      obtain ⟨⟨t134, t135⟩, A760, H⟩ := H
                      replace H : ((tern_With.f t127 t128 a2 t134).bind fun bt136 => (if t133 = true then (if t132 = a3 then (if (bt136.1 == a0_0 && (bt136.2.1 == a0_1)) = true then ((inquestlaw06_lives.f).bind fun t140 => (some t140)) else (some false)) else (some false)) else (some false))) = some r := H
                      have A76 := Aside0.mk A760
                      clear A760
                      replace H := Option.bind_eq_some_iff.mp H
                      obtain ⟨⟨t136, t137, t138⟩, A770, H⟩ := H
                      replace H : (if t133 = true then (if t132 = a3 then (if (t136 == a0_0 && (t137 == a0_1)) = true then ((inquestlaw06_lives.f).bind fun t140 => (some t140)) else (some false)) else (some false)) else (some false)) = some r := H
                      have A77 := Aside0.mk A770
                      clear A770
                      by_cases c78 : t133 = true
                      · subst c78
                        have H1 : (if t132 = a3 then (if (t136 == a0_0 && (t137 == a0_1)) = true then ((inquestlaw06_lives.f).bind fun t140 => (some t140)) else (some false)) else (some false)) = some r := by rw [if_pos rfl] at H; exact H
                        clear H
                        have H := H1
                        clear H1
                        by_cases c79 : t132 = a3
                        · rw [if_pos c79] at H
                          have c79b0 : (t132 == a3) = true := beq_iff_eq.mpr c79
                          have c79b1 : (t132 != a3) = false := bne_eq_false_iff_eq.mpr c79
                          clear c79
                          by_cases c80 : (t136 == a0_0 && (t137 == a0_1)) = true
                          · rw [if_pos c80] at H
                            have c80b0 : (t136 == a0_0 && (t137 == a0_1)) = true := c80
                            (try (have c80b1 : decide (t136 = a0_0 && (t137 == a0_1)) = true := by simpa using c80))
                            (try (have c80b2 : (t136 == a0_0 && (t137 == a0_1)) = true := by simpa using c80))
                            clear c80
                            replace H := Option.bind_eq_some_iff.mp H
                            obtain ⟨t140, A810, H⟩ := H
                            replace H : (some t140) = some r := H
                            have A81 := Aside0.mk A810
                            clear A810
                            obtain rfl := Option.some.inj H
                            have hnb82 := NB130_101.out
                            have hnc82 := NB101_130.out
                            have hnb83 := NB130_102.out
                            have hnc83 := NB102_130.out
                            have hcz84_0 : wc.cell? ⟨gb130, 0, none⟩ = some (.int .u64 t127) := (blk_cell BK130.out 0).trans rfl
                            have hcz84_1 : wc.cell? ⟨gb130, 1, none⟩ = some (.int .u64 t128) := (blk_cell BK130.out 1).trans rfl
                            have hfz84_0 := blk_frozen BK130.out 0
                            have hfz84_1 := blk_frozen BK130.out 1
                            go_wp2_with (first | ((with_reducible refine gate_callee (f := 16) rfl ?_); refine goesL_ (some 134) rfl rfl Try.func16 (by kernel_rfl) rfl #[.agg #[.int .u64 t127, .int .u64 t128], .int .i64 a2] rfl (by (try simp only [List.map_toArray, List.map_cons, List.map_nil]); first | done | rfl | (simp only [List.length_drop, List.length_take]; rfl)) ?_; (with_reducible refine (tern_At.calls t127 t128 a2 t132 true _ A75.out).mono ?_); rintro e w85 ⟨rfl, hb⟩; refine ⟨_, rfl, ?_⟩; have n0_ := Aside0.mk (blk_below (g := gb101) (o := .cells #[.int .u64 a0_0, .int .u64 a0_1] 24 (0, 0)) (by (with_reducible repeat (first | refine blk_drewN ?_ _ | refine blk_drew ?_ | refine blk_alloc ?_ _)); exact BK101.out) hb); have n1_ := Aside0.mk (blk_below (g := gb102) (o := .cells #[.int .u64 a1_0, .int .u64 a1_1] 24 (0, 0)) (by (with_reducible repeat (first | refine blk_drewN ?_ _ | refine blk_drew ?_ | refine blk_alloc ?_ _)); exact BK102.out) hb); have n2_ := Aside0.mk (blk_below (g := gb130) (o := .cells #[.int .u64 t127, .int .u64 t128] 24 (0, 0)) (by (with_reducible repeat (first | refine blk_drewN ?_ _ | refine blk_drew ?_ | refine blk_alloc ?_ _)); exact BK130.out) hb); have n3_ := Aside0.mk (below_step (by repeat (first | (with_reducible first | exact HB.out | apply below_alloc | apply pw_below_drewN | apply below_drew1 | refine below_set ?_ GE101.out | refine below_set ?_ GE102.out | refine below_set ?_ GE130.out) | exact HB.out)) hb); clear BK101; clear BK102; clear BK130; clear HB; have BK101 := n0_; have BK102 := n1_; have BK130 := n2_; have HB := n3_; clear n0_ n1_ n2_ n3_; (try clear hb); (try clear hb2); (try clear hk); (try clear hi); have hnb86 := NB101_102.out; have hnc86 := NB102_101.out; have hcz87_0 : w85.cell? ⟨gb101, 0, none⟩ = some (.int .u64 a0_0) := (blk_cell BK101.out 0).trans rfl; have hcz87_1 : w85.cell? ⟨gb101, 1, none⟩ = some (.int .u64 a0_1) := (blk_cell BK101.out 1).trans rfl; have hfz87_0 := blk_frozen BK101.out 0; have hfz87_1 := blk_frozen BK101.out 1) | ((with_reducible refine gate_callee (f := 16) rfl ?_); refine goesL_ (some 140) rfl rfl Try.func16 (by kernel_rfl) rfl #[.agg #[.int .u64 a0_0, .int .u64 a0_1], .int .i64 a2] rfl (by (try simp only [List.map_toArray, List.map_cons, List.map_nil]); first | done | rfl | (simp only [List.length_drop, List.length_take]; rfl)) ?_; (with_reducible refine (tern_At.calls a0_0 a0_1 a2 t134 t135 _ A76.out).mono ?_); rintro e w88 ⟨rfl, hb⟩; refine ⟨_, rfl, ?_⟩; have n0_ := Aside0.mk (blk_below (g := gb101) (o := .cells #[.int .u64 a0_0, .int .u64 a0_1] 24 (0, 0)) (by (with_reducible repeat (first | refine blk_drewN ?_ _ | refine blk_drew ?_ | refine blk_alloc ?_ _)); exact BK101.out) hb); have n1_ := Aside0.mk (blk_below (g := gb102) (o := .cells #[.int .u64 a1_0, .int .u64 a1_1] 24 (0, 0)) (by (with_reducible repeat (first | refine blk_drewN ?_ _ | refine blk_drew ?_ | refine blk_alloc ?_ _)); exact BK102.out) hb); have n2_ := Aside0.mk (blk_below (g := gb130) (o := .cells #[.int .u64 t127, .int .u64 t128] 24 (0, 0)) (by (with_reducible repeat (first | refine blk_drewN ?_ _ | refine blk_drew ?_ | refine blk_alloc ?_ _)); exact BK130.out) hb); have n3_ := Aside0.mk (below_step (by repeat (first | (with_reducible first | exact HB.out | apply below_alloc | apply pw_below_drewN | apply below_drew1 | refine below_set ?_ GE101.out | refine below_set ?_ GE102.out | refine below_set ?_ GE130.out) | exact HB.out)) hb); clear BK101; clear BK102; clear BK130; clear HB; have BK101 := n0_; have BK102 := n1_; have BK130 := n2_; have HB := n3_; clear n0_ n1_ n2_ n3_; (try clear hb); (try clear hb2); (try clear hk); (try clear hi); have hcz89_0 : w88.cell? ⟨gb130, 0, none⟩ = some (.int .u64 t127) := (blk_cell BK130.out 0).trans rfl; have hcz89_1 : w88.cell? ⟨gb130, 1, none⟩ = some (.int .u64 t128) := (blk_cell BK130.out 1).trans rfl; have hfz89_0 := blk_frozen BK130.out 0; have hfz89_1 := blk_frozen BK130.out 1) | ((with_reducible refine gate_callee (f := 23) rfl ?_); refine goesL_ (some 147) rfl rfl Try.func23 (by kernel_rfl) rfl #[.agg #[.int .u64 t127, .int .u64 t128], .int .i64 a2, .int .u8 t134] rfl (by (try simp only [List.map_toArray, List.map_cons, List.map_nil]); first | done | rfl | (simp only [List.length_drop, List.length_take]; rfl)) ?_; (with_reducible refine (tern_With.calls t127 t128 a2 t134 t136 t137 t138 _ A77.out).mono ?_); rintro e w90 ⟨rfl, hb⟩; refine ⟨_, rfl, ?_⟩; have n0_ := Aside0.mk (blk_below (g := gb101) (o := .cells #[.int .u64 a0_0, .int .u64 a0_1] 24 (0, 0)) (by (with_reducible repeat (first | refine blk_drewN ?_ _ | refine blk_drew ?_ | refine blk_alloc ?_ _)); exact BK101.out) hb); have n1_ := Aside0.mk (blk_below (g := gb102) (o := .cells #[.int .u64 a1_0, .int .u64 a1_1] 24 (0, 0)) (by (with_reducible repeat (first | refine blk_drewN ?_ _ | refine blk_drew ?_ | refine blk_alloc ?_ _)); exact BK102.out) hb); have n2_ := Aside0.mk (blk_below (g := gb130) (o := .cells #[.int .u64 t127, .int .u64 t128] 24 (0, 0)) (by (with_reducible repeat (first | refine blk_drewN ?_ _ | refine blk_drew ?_ | refine blk_alloc ?_ _)); exact BK130.out) hb); have n3_ := Aside0.mk (below_step (by repeat (first | (with_reducible first | exact HB.out | apply below_alloc | apply pw_below_drewN | apply below_drew1 | refine below_set ?_ GE101.out | refine below_set ?_ GE102.out | refine below_set ?_ GE130.out) | exact HB.out)) hb); clear BK101; clear BK102; clear BK130; clear HB; have BK101 := n0_; have BK102 := n1_; have BK130 := n2_; have HB := n3_; clear n0_ n1_ n2_ n3_; (try clear hb); (try clear hb2); (try clear hk); (try clear hi)) | ((with_reducible refine gate_dst (N := 26) rfl ?_); refine box_event ?hg (N := 26) ?hd (cs := #[.int .u64 0, .int .u64 0]) (t := 24) ?hr ?_; (case hd => rfl); (case hg => rfl); (case hr => first | (go_simp; done) | (go_simp; rfl)); intro gb139 hg w91 hbox hb; have n0_ := Aside0.mk (blk_below (g := gb101) (o := .cells #[.int .u64 a0_0, .int .u64 a0_1] 24 (0, 0)) (by (with_reducible repeat (first | refine blk_drewN ?_ _ | refine blk_drew ?_ | refine blk_alloc ?_ _)); exact BK101.out) hb); have n1_ := Aside0.mk (blk_below (g := gb102) (o := .cells #[.int .u64 a1_0, .int .u64 a1_1] 24 (0, 0)) (by (with_reducible repeat (first | refine blk_drewN ?_ _ | refine blk_drew ?_ | refine blk_alloc ?_ _)); exact BK102.out) hb); have n2_ := Aside0.mk (blk_below (g := gb130) (o := .cells #[.int .u64 t127, .int .u64 t128] 24 (0, 0)) (by (with_reducible repeat (first | refine blk_drewN ?_ _ | refine blk_drew ?_ | refine blk_alloc ?_ _)); exact BK130.out) hb); have n3_ := Aside0.mk (below_step (by repeat (first | (with_reducible first | exact HB.out | apply below_alloc | apply pw_below_drewN | apply below_drew1 | refine below_set ?_ GE101.out | refine below_set ?_ GE102.out | refine below_set ?_ GE130.out) | exact HB.out)) hb); have n4_ := Aside0.mk (hbox); have n5_ := Aside0.mk ((by rw [hg]; exact (below_size (by repeat (first | (with_reducible first | exact HB.out | apply below_alloc | apply pw_below_drewN | apply below_drew1 | refine below_set ?_ GE101.out | refine below_set ?_ GE102.out | refine below_set ?_ GE130.out) | exact HB.out))) : w.heap.size ≤ gb139)); have n6_ := Aside0.mk ((by rw [hg]; exact (below_size (by repeat (first | (with_reducible first | exact HB.out | apply below_alloc | apply pw_below_drewN | apply below_drew1 | refine below_set ?_ GE101.out | refine below_set ?_ GE102.out | refine below_set ?_ GE130.out) | exact HB.out))) : w.heap.size ≤ gb139)); have n7_ := Aside0.mk ((by rw [hg]; exact Nat.ne_of_lt (blk_lt (g := gb101) (o := .cells #[.int .u64 a0_0, .int .u64 a0_1] 24 (0, 0)) (by (with_reducible repeat (first | refine blk_drewN ?_ _ | refine blk_drew ?_ | refine blk_alloc ?_ _)); exact BK101.out)) : gb101 ≠ gb139)); have n8_ := Aside0.mk ((by rw [hg]; exact Nat.ne_of_gt (blk_lt (g := gb101) (o := .cells #[.int .u64 a0_0, .int .u64 a0_1] 24 (0, 0)) (by (with_reducible repeat (first | refine blk_drewN ?_ _ | refine blk_drew ?_ | refine blk_alloc ?_ _)); exact BK101.out)) : gb139 ≠ gb101)); have n9_ := Aside0.mk ((by rw [hg]; exact Nat.ne_of_lt (blk_lt (g := gb102) (o := .cells #[.int .u64 a1_0, .int .u64 a1_1] 24 (0, 0)) (by (with_reducible repeat (first | refine blk_drewN ?_ _ | refine blk_drew ?_ | refine blk_alloc ?_ _)); exact BK102.out)) : gb102 ≠ gb139)); have n10_ := Aside0.mk ((by rw [hg]; exact Nat.ne_of_gt (blk_lt (g := gb102) (o := .cells #[.int .u64 a1_0, .int .u64 a1_1] 24 (0, 0)) (by (with_reducible repeat (first | refine blk_drewN ?_ _ | refine blk_drew ?_ | refine blk_alloc ?_ _)); exact BK102.out)) : gb139 ≠ gb102)); have n11_ := Aside0.mk ((by rw [hg]; exact Nat.ne_of_lt (blk_lt (g := gb130) (o := .cells #[.int .u64 t127, .int .u64 t128] 24 (0, 0)) (by (with_reducible repeat (first | refine blk_drewN ?_ _ | refine blk_drew ?_ | refine blk_alloc ?_ _)); exact BK130.out)) : gb130 ≠ gb139)); have n12_ := Aside0.mk ((by rw [hg]; exact Nat.ne_of_gt (blk_lt (g := gb130) (o := .cells #[.int .u64 t127, .int .u64 t128] 24 (0, 0)) (by (with_reducible repeat (first | refine blk_drewN ?_ _ | refine blk_drew ?_ | refine blk_alloc ?_ _)); exact BK130.out)) : gb139 ≠ gb130)); clear BK101; clear BK102; clear BK130; clear HB; have BK101 := n0_; have BK102 := n1_; have BK130 := n2_; have HB := n3_; have BK139 := n4_; have GW139 := n5_; have GE139 := n6_; have NB101_139 := n7_; have NB139_101 := n8_; have NB102_139 := n9_; have NB139_102 := n10_; have NB130_139 := n11_; have NB139_130 := n12_; clear n0_ n1_ n2_ n3_ n4_ n5_ n6_ n7_ n8_ n9_ n10_ n11_ n12_; clear hb hbox hg; have hnb92 := NB139_101.out; have hnc92 := NB101_139.out; have hnb93 := NB139_102.out; have hnc93 := NB102_139.out; have hnb94 := NB139_130.out; have hnc94 := NB130_139.out; have hcz95_0 : w91.cell? ⟨gb139, 0, none⟩ = some (.int .u64 0) := (blk_cell BK139.out 0).trans rfl; have hcz95_1 : w91.cell? ⟨gb139, 1, none⟩ = some (.int .u64 0) := (blk_cell BK139.out 1).trans rfl; have hfz95_0 := blk_frozen BK139.out 0; have hfz95_1 := blk_frozen BK139.out 1; have hcz96_0 : w91.cell? ⟨gb101, 0, none⟩ = some (.int .u64 a0_0) := (blk_cell BK101.out 0).trans rfl; have hcz96_1 : w91.cell? ⟨gb101, 1, none⟩ = some (.int .u64 a0_1) := (blk_cell BK101.out 1).trans rfl; have hfz96_0 := blk_frozen BK101.out 0; have hfz96_1 := blk_frozen BK101.out 1) | (go_at_call 12; (with_reducible refine (inquestlaw06_lives.calls  t140 _ A81.out).mono ?_); rintro e w97 ⟨rfl, hb⟩; have n0_ := Aside0.mk (blk_below (g := gb101) (o := .cells #[.int .u64 a0_0, .int .u64 a0_1] 24 (0, 0)) (by (with_reducible repeat (first | refine blk_drewN ?_ _ | refine blk_drew ?_ | refine blk_alloc ?_ _)); refine blk_far ?_ NB101_139.out _; (with_reducible repeat (first | refine blk_drewN ?_ _ | refine blk_drew ?_ | refine blk_alloc ?_ _)); refine blk_far ?_ NB101_139.out _; (with_reducible repeat (first | refine blk_drewN ?_ _ | refine blk_drew ?_ | refine blk_alloc ?_ _)); exact BK101.out) hb); have n1_ := Aside0.mk (blk_below (g := gb102) (o := .cells #[.int .u64 a1_0, .int .u64 a1_1] 24 (0, 0)) (by (with_reducible repeat (first | refine blk_drewN ?_ _ | refine blk_drew ?_ | refine blk_alloc ?_ _)); refine blk_far ?_ NB102_139.out _; (with_reducible repeat (first | refine blk_drewN ?_ _ | refine blk_drew ?_ | refine blk_alloc ?_ _)); refine blk_far ?_ NB102_139.out _; (with_reducible repeat (first | refine blk_drewN ?_ _ | refine blk_drew ?_ | refine blk_alloc ?_ _)); exact BK102.out) hb); have n2_ := Aside0.mk (blk_below (g := gb130) (o := .cells #[.int .u64 t127, .int .u64 t128] 24 (0, 0)) (by (with_reducible repeat (first | refine blk_drewN ?_ _ | refine blk_drew ?_ | refine blk_alloc ?_ _)); refine blk_far ?_ NB130_139.out _; (with_reducible repeat (first | refine blk_drewN ?_ _ | refine blk_drew ?_ | refine blk_alloc ?_ _)); refine blk_far ?_ NB130_139.out _; (with_reducible repeat (first | refine blk_drewN ?_ _ | refine blk_drew ?_ | refine blk_alloc ?_ _)); exact BK130.out) hb); have n3_ := Aside0.mk (blk_below (g := gb139) (o := .cells #[.int .u64 t136, .int .u64 t137] 24 (0, 0)) (by (with_reducible repeat (first | refine blk_drewN ?_ _ | refine blk_drew ?_ | refine blk_alloc ?_ _)); refine blk_put (cs := #[.int .u64 t136, .int .u64 0]) ?_ 1 _ rfl; (with_reducible repeat (first | refine blk_drewN ?_ _ | refine blk_drew ?_ | refine blk_alloc ?_ _)); refine blk_put (cs := #[.int .u64 0, .int .u64 0]) ?_ 0 _ rfl; (with_reducible repeat (first | refine blk_drewN ?_ _ | refine blk_drew ?_ | refine blk_alloc ?_ _)); exact BK139.out) hb); have n4_ := Aside0.mk (below_step (by repeat (first | (with_reducible first | exact HB.out | apply below_alloc | apply pw_below_drewN | apply below_drew1 | refine below_set ?_ GE101.out | refine below_set ?_ GE102.out | refine below_set ?_ GE130.out | refine below_set ?_ GE139.out) | exact HB.out)) hb); clear BK101; clear BK102; clear BK130; clear BK139; clear HB; have BK101 := n0_; have BK102 := n1_; have BK130 := n2_; have BK139 := n3_; have HB := n4_; clear n0_ n1_ n2_ n3_ n4_; (try clear hb); (try clear hb2); (try clear hk); (try clear hi)))
                            go_ret
                            exact ⟨by first | rfl | (simp [errW_none, errW_some] <;> rfl) | (simp [*, errW_none, errW_some] <;> rfl), by repeat (first | (with_reducible first | exact HB.out | apply below_alloc | apply pw_below_drewN | apply below_drew1 | refine below_set ?_ GE101.out | refine below_set ?_ GE102.out | refine below_set ?_ GE130.out | refine below_set ?_ GE139.out) | exact HB.out)⟩
                          · rw [if_neg c80] at H
                            have c80b0 : (t136 == a0_0 && (t137 == a0_1)) = false := by simpa using c80
                            (try (have c80b1 : decide (t136 = a0_0 && (t137 == a0_1)) = false := by simpa using c80))
                            (try (have c80b2 : (t136 == a0_0 && (t137 == a0_1)) = false := by simpa using c80))
                            (try (have c80b3 : ¬ (t136 = a0_0 && (t137 == a0_1)) := by simpa using c80))
                            clear c80
                            exact absurd ((Option.some.inj H).trans hrt.out) (by simp)
                        · rw [if_neg c79] at H
                          have c79b0 : (t132 == a3) = false := beq_eq_false_iff_ne.mpr c79
                          have c79b1 : (t132 != a3) = true := bne_iff_ne.mpr c79
                          exact absurd ((Option.some.inj H).trans hrt.out) (by simp)
                      · replace c78 := Bool.eq_false_iff.mpr c78
                        subst c78
                        have H1 : (some false) = some r := by rw [if_neg (show ¬ (false = true) by decide)] at H; exact H
                        clear H
                        have H := H1
                        clear H1
                        exact absurd ((Option.some.inj H).trans hrt.out) (by simp)
                    · rw [if_neg c74] at H
                      have c74b0 : (t129 == 0) = false := beq_eq_false_iff_ne.mpr c74
                      have c74b1 : (t129 != 0) = true := bne_iff_ne.mpr c74
                      replace H := Option.bind_eq_some_iff.mp H
                      obtain ⟨t131, A980, H⟩ := H
                      replace H : (some t131) = some r := H
                      have A98 := Aside0.mk A980
                      clear A980
                      obtain rfl := Option.some.inj H
                      go_wp2_with (first | ((with_reducible refine gate_callee (f := 12) rfl ?_); refine goesL_ (some 130) rfl rfl Try.func12 (by kernel_rfl) rfl #[] rfl (by (try simp only [List.map_toArray, List.map_cons, List.map_nil]); first | done | rfl | (simp only [List.length_drop, List.length_take]; rfl)) ?_; (with_reducible refine (inquestlaw06_lives.calls  t131 _ A98.out).mono ?_); rintro e w99 ⟨rfl, hb⟩; refine ⟨_, rfl, ?_⟩; have n0_ := Aside0.mk (blk_below (g := gb101) (o := .cells #[.int .u64 a0_0, .int .u64 a0_1] 24 (0, 0)) (by (with_reducible repeat (first | refine blk_drewN ?_ _ | refine blk_drew ?_ | refine blk_alloc ?_ _)); exact BK101.out) hb); have n1_ := Aside0.mk (blk_below (g := gb102) (o := .cells #[.int .u64 a1_0, .int .u64 a1_1] 24 (0, 0)) (by (with_reducible repeat (first | refine blk_drewN ?_ _ | refine blk_drew ?_ | refine blk_alloc ?_ _)); exact BK102.out) hb); have n2_ := Aside0.mk (blk_below (g := gb130) (o := .cells #[.int .u64 t127, .int .u64 t128] 24 (0, 0)) (by (with_reducible repeat (first | refine blk_drewN ?_ _ | refine blk_drew ?_ | refine blk_alloc ?_ _)); exact BK130.out) hb); have n3_ := Aside0.mk (below_step (by repeat (first | (with_reducible first | exact HB.out | apply below_alloc | apply pw_below_drewN | apply below_drew1 | refine below_set ?_ GE101.out | refine below_set ?_ GE102.out | refine below_set ?_ GE130.out) | exact HB.out)) hb); clear BK101; clear BK102; clear BK130; clear HB; have BK101 := n0_; have BK102 := n1_; have BK130 := n2_; have HB := n3_; clear n0_ n1_ n2_ n3_; (try clear hb); (try clear hb2); (try clear hk); (try clear hi)))
                      go_ret
                      exact ⟨by first | rfl | (simp [errW_none, errW_some] <;> rfl) | (simp [*, errW_none, errW_some] <;> rfl), by repeat (first | (with_reducible first | exact HB.out | apply below_alloc | apply pw_below_drewN | apply below_drew1 | refine below_set ?_ GE101.out | refine below_set ?_ GE102.out | refine below_set ?_ GE130.out) | exact HB.out)⟩

end Go.Proofs.Ythpnooookkpkaaa.F
namespace Go.Proofs.Ythpnooookkpkaaa.T
open Go.RowKit Go.Proofs.Ythpnooookkpkaaa.F Go.Proofs.YthpnooookkpkaaaW.PrintWords Go.Proofs.YthpnooookkpkaaaW.PrintMore

theorem notR_may {z o : Nat} (hz : z < 2 ^ 64) (ho : o < 2 ^ 64) (h : mayB z o = true) : notR z o = (o, z) ∧ mayB o z = true := by
  refine ⟨by simp [notR, h], ?_⟩
  rw [mayB_iff ho hz]
  intro j hj
  exact ((mayB_iff hz ho).1 h j hj).symm
theorem andR_may {z o y p : Nat} (hz : z < 2 ^ 64) (ho : o < 2 ^ 64) (hy : y < 2 ^ 64) (hp : p < 2 ^ 64) (h : mayB z o = true) (g : mayB y p = true) : andR z o y p = (z ||| y, o &&& p) ∧ mayB (z ||| y) (o &&& p) = true := by
  refine ⟨by simp [andR, h, g], ?_⟩
  rw [mayB_iff (Nat.or_lt_two_pow hz hy) (Nat.lt_of_le_of_lt Nat.and_le_left ho)]
  intro j hj
  have h1 := (mayB_iff hz ho).1 h j hj
  have h2 := (mayB_iff hy hp).1 g j hj
  rw [Nat.testBit_or, Nat.testBit_and]
  cases e1 : z.testBit j <;> cases e2 : o.testBit j <;> cases e3 : y.testBit j <;> cases e4 : p.testBit j <;> simp [e1, e2, e3, e4] at h1 h2 ⊢
theorem val_inj {a b c d : Bool} (h1 : a = true ∨ b = true) (h2 : c = true ∨ d = true) (h : val a b = val c d) : a = c ∧ b = d := by
  cases a <;> cases b <;> cases c <;> cases d <;> simp [val] at h h1 h2 ⊢
theorem none_left {a b : Nat} (ha : a < 2 ^ 64) (hb : b < 2 ^ 64) (h : ∀ j, j < 64 → a.testBit j = true → b.testBit j = true) : bits .andNot .u64 (a : Int) (b : Int) = 0 := by
  rw [andNot_nat ha hb]
  have : a &&& (2 ^ 64 - (b + 1)) = 0 := by
    apply ext64 (Nat.lt_of_le_of_lt Nat.and_le_left ha) (by omega)
    intro j hj
    rw [Nat.testBit_and, Nat.testBit_two_pow_sub_succ hb]
    have := h j hj
    cases e1 : a.testBit j <;> cases e2 : b.testBit j <;> simp [e1, e2] at this ⊢
  rw [this]; rfl
theorem within_not {a0 a1 b0 b1 : Nat} (ha0 : a0 < 2 ^ 64) (ha1 : a1 < 2 ^ 64) (hb0 : b0 < 2 ^ 64) (hb1 : b1 < 2 ^ 64) (ma : mayB a0 a1 = true) (mb : mayB b0 b1 = true) : bits .andNot .u64 ((withinR a0 a1 b0 b1 : Nat) : Int) ((withinR a1 a0 b1 b0 : Nat) : Int) = 0 := by
  refine none_left (withinR_lt ha0 ha1) (withinR_lt ha1 ha0) fun j hj h => ?_
  rw [withinR_bit ha0 ha1 hb0 hb1 j hj] at h
  rw [withinR_bit ha1 ha0 hb1 hb0 j hj, (notR_may ha0 ha1 ma).2, (notR_may hb0 hb1 mb).2]
  have h1 := (mayB_iff ha0 ha1).1 ma j hj
  have h2 := (mayB_iff hb0 hb1).1 mb j hj
  cases e1 : a0.testBit j <;> cases e2 : a1.testBit j <;> cases e3 : b0.testBit j <;> cases e4 : b1.testBit j <;> simp [val, e1, e2, e3, e4] at h h1 h2 ⊢
theorem within_and {a0 a1 b0 b1 c0 c1 d0 d1 : Nat} (ha0 : a0 < 2 ^ 64) (ha1 : a1 < 2 ^ 64) (hb0 : b0 < 2 ^ 64) (hb1 : b1 < 2 ^ 64) (hc0 : c0 < 2 ^ 64) (hc1 : c1 < 2 ^ 64) (hd0 : d0 < 2 ^ 64) (hd1 : d1 < 2 ^ 64) (ma : mayB a0 a1 = true) (mb : mayB b0 b1 = true) (mc : mayB c0 c1 = true) (md : mayB d0 d1 = true) :
    bits .andNot .u64 (bits .and .u64 ((withinR a0 a1 b0 b1 : Nat) : Int) ((withinR c0 c1 d0 d1 : Nat) : Int)) ((withinR (a0 ||| c0) (a1 &&& c1) (b0 ||| d0) (b1 &&& d1) : Nat) : Int) = 0 := by
  have l1 := Nat.or_lt_two_pow ha0 hc0
  have l2 := Nat.or_lt_two_pow hb0 hd0
  have l3 : a1 &&& c1 < 2 ^ 64 := Nat.lt_of_le_of_lt Nat.and_le_left ha1
  have l4 : b1 &&& d1 < 2 ^ 64 := Nat.lt_of_le_of_lt Nat.and_le_left hb1
  rw [and_nat (withinR_lt ha0 ha1) (withinR_lt hc0 hc1)]
  refine none_left (Nat.lt_of_le_of_lt Nat.and_le_left (withinR_lt ha0 ha1)) (withinR_lt l1 l3) fun j hj h => ?_
  rw [Nat.testBit_and, withinR_bit ha0 ha1 hb0 hb1 j hj, withinR_bit hc0 hc1 hd0 hd1 j hj] at h
  rw [withinR_bit l1 l3 l2 l4 j hj, (andR_may ha0 ha1 hc0 hc1 ma mc).2, (andR_may hb0 hb1 hd0 hd1 mb md).2, Nat.testBit_or, Nat.testBit_or, Nat.testBit_and, Nat.testBit_and]
  have h1 := (mayB_iff ha0 ha1).1 ma j hj
  have h2 := (mayB_iff hb0 hb1).1 mb j hj
  have h3 := (mayB_iff hc0 hc1).1 mc j hj
  have h4 := (mayB_iff hd0 hd1).1 md j hj
  cases e1 : a0.testBit j <;> cases e2 : a1.testBit j <;> cases e3 : b0.testBit j <;> cases e4 : b1.testBit j <;> cases e5 : c0.testBit j <;> cases e6 : c1.testBit j <;> cases e7 : d0.testBit j <;> cases e8 : d1.testBit j <;> simp [val, e1, e2, e3, e4, e5, e6, e7, e8] at h h1 h2 h3 h4 ⊢
theorem within_self {a0 a1 : Nat} (ha0 : a0 < 2 ^ 64) (ha1 : a1 < 2 ^ 64) (ma : mayB a0 a1 = true) : withinR a0 a1 a0 a1 = 18446744073709551615 := by
  apply ext64 (withinR_lt ha0 ha1) (by omega)
  intro j hj
  rw [withinR_bit ha0 ha1 ha0 ha1 j hj, ma, full_bit hj]
  simp
theorem within_loop {a0 a1 b0 b1 : Nat} (ha0 : a0 < 2 ^ 64) (ha1 : a1 < 2 ^ 64) (hb0 : b0 < 2 ^ 64) (hb1 : b1 < 2 ^ 64) (ma : mayB a0 a1 = true) (mb : mayB b0 b1 = true) :
    ∀ d k i : Nat, i + d = 64 → d < k → inquestlaw06_TernWithin.l0 k ((withinR a0 a1 b0 b1 &&& withinR b0 b1 a0 a1 : Nat) : Int) i a0 a1 b0 b1 = some true := by
  have l1 : withinR a0 a1 b0 b1 &&& withinR b0 b1 a0 a1 < 2 ^ 64 := Nat.lt_of_le_of_lt Nat.and_le_left (withinR_lt ha0 ha1)
  have n := notR_may ha0 ha1 ma
  intro d
  induction d with
  | zero =>
    intro k i hi hk
    obtain ⟨k, rfl⟩ : ∃ m, k = m + 1 := ⟨k - 1, by omega⟩
    simp only [inquestlaw06_TernWithin.l0]
    rw [if_neg (by omega), Within_is ha0 ha1 ha0 ha1, Option.bind_some, within_self ha0 ha1 ma, if_pos (by rfl), Not_is ha0 ha1, Option.bind_some, n.1, Not_is ha1 ha0, Option.bind_some, (notR_may ha1 ha0 n.2).1, if_pos (by simp), lives_is, Option.bind_some]
  | succ d ih =>
    intro k i hi hk
    obtain ⟨k, rfl⟩ : ∃ m, k = m + 1 := ⟨k - 1, by omega⟩
    simp only [inquestlaw06_TernWithin.l0]
    rw [if_pos (by omega), at_is _ ha0 ha1, Option.bind_some, at_is _ hb0 hb1, Option.bind_some, wu64 (by omega), if_pos (by omega), low_bit l1 (by omega), if_pos (show mayB a0 a1 = true ∧ 0 ≤ (i : Int) ∧ (i : Int) < 64 from ⟨ma, by omega, by omega⟩), if_pos (show mayB b0 b1 = true ∧ 0 ≤ (i : Int) ∧ (i : Int) < 64 from ⟨mb, by omega, by omega⟩), Int.toNat_natCast, w64 (by omega), ih k (i + 1) (by omega) (by omega)]
    by_cases h : (((withinR a0 a1 b0 b1 &&& withinR b0 b1 a0 a1).testBit i).toNat : Int) = 1
    · rw [if_pos h]
      have hb : (withinR a0 a1 b0 b1 &&& withinR b0 b1 a0 a1).testBit i = true := by
        cases e : (withinR a0 a1 b0 b1 &&& withinR b0 b1 a0 a1).testBit i
        · rw [e] at h; simp at h
        · rfl
      rw [Nat.testBit_and, withinR_bit ha0 ha1 hb0 hb1 i (by omega), withinR_bit hb0 hb1 ha0 ha1 i (by omega), ma, mb] at hb
      have hv : val (a0.testBit i) (a1.testBit i) = val (b0.testBit i) (b1.testBit i) := by
        simp at hb
        obtain ⟨h1, h2⟩ := hb
        rcases h1 with h1 | h1
        · rcases h2 with h2 | h2
          · rw [h1, h2]
          · exact h2.symm
        · exact h1
      rw [if_pos hv]
    · rw [if_neg h]
theorem TernWithin_pure {a0 a1 b0 b1 c0 c1 d0 d1 : Nat} (ha0 : a0 < 2 ^ 64) (ha1 : a1 < 2 ^ 64) (hb0 : b0 < 2 ^ 64) (hb1 : b1 < 2 ^ 64) (hc0 : c0 < 2 ^ 64) (hc1 : c1 < 2 ^ 64) (hd0 : d0 < 2 ^ 64) (hd1 : d1 < 2 ^ 64) :
    inquestlaw06_TernWithin.f 300 a0 a1 b0 b1 c0 c1 d0 d1 = some true := by
  have short : ∀ k, 0 < k → inquestlaw06_TernWithin.j0 k true a0 a1 b0 b1 c0 c1 d0 d1 = some true := by
    intro k hk
    obtain ⟨k, rfl⟩ : ∃ m, k = m + 1 := ⟨k - 1, by omega⟩
    simp only [inquestlaw06_TernWithin.j0]
    rw [if_pos trivial, lives_is]; rfl
  unfold inquestlaw06_TernWithin.f
  rw [may_is ha0 ha1, Option.bind_some]
  by_cases ma : mayB a0 a1 = true
  · rw [if_pos ma, may_is hb0 hb1, Option.bind_some]
    by_cases mb : mayB b0 b1 = true
    · rw [if_pos mb, may_is hc0 hc1, Option.bind_some]
      by_cases mc : mayB c0 c1 = true
      · rw [if_pos mc, may_is hd0 hd1, Option.bind_some]
        by_cases md : mayB d0 d1 = true
        · rw [md]
          show inquestlaw06_TernWithin.j0 (299 + 1) false a0 a1 b0 b1 c0 c1 d0 d1 = some true
          have na := notR_may ha0 ha1 ma
          have nb := notR_may hb0 hb1 mb
          have ac := andR_may ha0 ha1 hc0 hc1 ma mc
          have bd := andR_may hb0 hb1 hd0 hd1 mb md
          have l3 : a1 &&& c1 < 2 ^ 64 := Nat.lt_of_le_of_lt Nat.and_le_left ha1
          have l4 : b1 &&& d1 < 2 ^ 64 := Nat.lt_of_le_of_lt Nat.and_le_left hb1
          simp only [inquestlaw06_TernWithin.j0]
          rw [if_neg (by simp), Within_is ha0 ha1 hb0 hb1, Option.bind_some, Within_is hc0 hc1 hd0 hd1, Option.bind_some, Not_is ha0 ha1, Option.bind_some, Not_is hb0 hb1, Option.bind_some, na.1, nb.1, Within_is ha1 ha0 hb1 hb0, Option.bind_some, within_not ha0 ha1 hb0 hb1 ma mb, if_pos rfl, And_is ha0 ha1 hc0 hc1, Option.bind_some, And_is hb0 hb1 hd0 hd1, Option.bind_some, ac.1, bd.1,
            Within_is (Nat.or_lt_two_pow ha0 hc0) l3 (Nat.or_lt_two_pow hb0 hd0) l4, Option.bind_some, within_and ha0 ha1 hb0 hb1 hc0 hc1 hd0 hd1 ma mb mc md]
          show inquestlaw06_TernWithin.j1 (298 + 1) _ false _ _ _ _ = some true
          simp only [inquestlaw06_TernWithin.j1]
          rw [if_neg (by simp), Within_is hb0 hb1 ha0 ha1, Option.bind_some, and_nat (withinR_lt ha0 ha1) (withinR_lt hb0 hb1)]
          exact within_loop ha0 ha1 hb0 hb1 ma mb 64 298 0 (by omega) (by omega)
        · rw [show mayB d0 d1 = false by simpa using md]
          exact short 300 (by omega)
      · rw [if_neg mc]; exact short 300 (by omega)
    · rw [if_neg mb]; exact short 300 (by omega)
  · rw [if_neg ma]; exact short 300 (by omega)
theorem TernWithin_walk (a b c d e f g h : Int) (W : World) (wa : (Lit.int .u64 a).wf = true) (wb : (Lit.int .u64 b).wf = true) (wc : (Lit.int .u64 c).wf = true) (wd : (Lit.int .u64 d).wf = true) (we : (Lit.int .u64 e).wf = true) (wf : (Lit.int .u64 f).wf = true) (wg : (Lit.int .u64 g).wf = true) (wh : (Lit.int .u64 h).wf = true) :
    Calls Try.prog 3 #[.agg #[.int .u64 a, .int .u64 b], .agg #[.int .u64 c, .int .u64 d], .agg #[.int .u64 e, .int .u64 f], .agg #[.int .u64 g, .int .u64 h]] W fun e w' => e = .returned (.bool true) ∧ Below W.heap.size W w' := by
  obtain ⟨a, rfl, ha⟩ := nat_of_u64 wa
  obtain ⟨b, rfl, hb⟩ := nat_of_u64 wb
  obtain ⟨c, rfl, hc⟩ := nat_of_u64 wc
  obtain ⟨d, rfl, hd⟩ := nat_of_u64 wd
  obtain ⟨e, rfl, he⟩ := nat_of_u64 we
  obtain ⟨f, rfl, hf⟩ := nat_of_u64 wf
  obtain ⟨g, rfl, hg⟩ := nat_of_u64 wg
  obtain ⟨h, rfl, hh⟩ := nat_of_u64 wh
  exact inquestlaw06_TernWithin.calls 300 _ _ _ _ _ _ _ _ true W ⟨rfl⟩ (TernWithin_pure ha hb hc hd he hf hg hh)

theorem at_t {z o i : Nat} (hz : z < 2 ^ 64) (ho : o < 2 ^ 64) (hm : mayB z o = true) (hi : i < 64) : tern_At.f z o (i : Int) = some (val (z.testBit i) (o.testBit i), true) := by
  rw [at_is _ hz ho, if_pos ⟨hm, by omega, by omega⟩, Int.toNat_natCast]
theorem places_end {a0 a1 : Nat} (ha0 : a0 < 2 ^ 64) (ha1 : a1 < 2 ^ 64) (ma : mayB a0 a1 = true) (b0 b1 i v : Int) (hv : 0 ≤ v) (k : Nat) (hk : 2 ≤ k) :
    inquestlaw06_TernPlaces.l0 k i v 64 a0 a1 b0 b1 = some true := by
  obtain ⟨k, rfl⟩ : ∃ m, k = m + 2 := ⟨k - 2, by omega⟩
  simp only [inquestlaw06_TernPlaces.l0]
  rw [if_neg (by omega), With_is i v ha0 ha1, Option.bind_some]
  by_cases hc : mayB a0 a1 = true ∧ 0 ≤ i ∧ i < 64 ∧ v ≤ 2
  · rw [if_pos hc, if_pos (by omega), if_pos (by omega)]
    have e : (((0 : Int) == 0) != (decide (v ≤ 2))) = false := by simp [hc.2.2.2]
    show inquestlaw06_TernPlaces.j2 (k + 1) i v 0 (((0 : Int) == 0) != (decide (v ≤ 2))) a0 a1 _ _ = some true
    rw [e]
    obtain ⟨n, rfl⟩ := Int.eq_ofNat_of_zero_le hc.2.1
    have hn : n < 64 := by omega
    have l1 := setb_lt (b := decide (v ≠ 1)) ha0 hn
    have l2 := setb_lt (b := decide (v ≠ 0)) ha1 hn
    rw [Int.toNat_natCast]
    have hm : mayB (setb a0 n (decide (v ≠ 1))) (setb a1 n (decide (v ≠ 0))) = true := by
      rw [mayB_iff l1 l2]
      intro j hj
      rw [setb_bit hn j hj, setb_bit hn j hj]
      by_cases e : n = j
      · rw [if_pos e, if_pos e]
        by_cases v0 : v = 0
        · left; simp [v0]
        · right; simp [v0]
      · rw [if_neg e, if_neg e]; exact (mayB_iff ha0 ha1).1 ma j hj
    have hval : val ((setb a0 n (decide (v ≠ 1))).testBit n) ((setb a1 n (decide (v ≠ 0))).testBit n) = v := by
      rw [setb_bit hn n hn, setb_bit hn n hn, if_pos rfl, if_pos rfl]
      rcases (show v = 0 ∨ v = 1 ∨ v = 2 by omega) with rfl | rfl | rfl <;> simp [val]
    have hbit := (mayB_iff ha0 ha1).1 ma n hn
    have hback : ∀ (x : Nat) (b c : Bool), x < 2 ^ 64 → x.testBit n = c → setb (setb x n b) n c = x := by
      intro x b c hx hc
      apply ext64 (setb_lt (setb_lt hx hn) hn) hx
      intro j hj
      rw [setb_bit hn j hj, setb_bit hn j hj]
      by_cases e : n = j
      · subst e; simp [hc]
      · simp [e]
    have b1' : setb (setb a0 n (decide (v ≠ 1))) n (decide (val (a0.testBit n) (a1.testBit n) ≠ 1)) = a0 := hback a0 _ _ ha0 (by cases e1 : a0.testBit n <;> cases e2 : a1.testBit n <;> simp [val, e1, e2] at hbit ⊢)
    have b2' : setb (setb a1 n (decide (v ≠ 0))) n (decide (val (a0.testBit n) (a1.testBit n) ≠ 0)) = a1 := hback a1 _ _ ha1 (by cases e1 : a0.testBit n <;> cases e2 : a1.testBit n <;> simp [val, e1, e2] at hbit ⊢)
    have hvr := val_range (a0.testBit n) (a1.testBit n)
    simp only [inquestlaw06_TernPlaces.j2]
    rw [if_neg (by simp), if_pos trivial, at_is _ l1 l2, Option.bind_some, at_is _ ha0 ha1, Option.bind_some, if_pos (show mayB (setb a0 n (decide (v ≠ 1))) (setb a1 n (decide (v ≠ 0))) = true ∧ 0 ≤ (n : Int) ∧ (n : Int) < 64 from ⟨hm, by omega, by omega⟩), if_pos (show mayB a0 a1 = true ∧ 0 ≤ (n : Int) ∧ (n : Int) < 64 from ⟨ma, by omega, by omega⟩), Int.toNat_natCast, With_is _ _ l1 l2, Option.bind_some,
      if_pos (show mayB (setb a0 n (decide (v ≠ 1))) (setb a1 n (decide (v ≠ 0))) = true ∧ 0 ≤ (n : Int) ∧ (n : Int) < 64 ∧ val (a0.testBit n) (a1.testBit n) ≤ 2 from ⟨hm, by omega, by omega, hvr.2⟩), if_pos rfl, hval, if_pos rfl, Int.toNat_natCast, b1', b2', if_pos (by simp), lives_is]
    rfl
  · rw [if_neg hc]
    have fin : ∀ b : Bool, b = false → inquestlaw06_TernPlaces.j2 (k + 1) i v 2 b a0 a1 0 0 = some true := by
      intro b hb
      subst hb
      simp only [inquestlaw06_TernPlaces.j2]
      rw [if_neg (by simp), if_neg (by omega), lives_is]; rfl
    by_cases h0 : i ≥ 0
    · rw [if_pos h0]
      by_cases h1 : i < 64
      · have h2 : ¬ v ≤ 2 := fun x => hc ⟨ma, by omega, h1, x⟩
        rw [if_pos h1]
        exact fin _ (by simp [h2])
      · rw [if_neg h1]
        exact fin _ (by simp)
    · rw [if_neg h0]
      exact fin _ (by simp)
theorem places_loop {a0 a1 b0 b1 : Nat} (ha0 : a0 < 2 ^ 64) (ha1 : a1 < 2 ^ 64) (hb0 : b0 < 2 ^ 64) (hb1 : b1 < 2 ^ 64) (ma : mayB a0 a1 = true) (mb : mayB b0 b1 = true) (x v : Int) (hv : 0 ≤ v) :
    ∀ d k i : Nat, i + d = 64 → d + 2 ≤ k → inquestlaw06_TernPlaces.l0 k x v i a0 a1 b0 b1 = some true := by
  have na := notR_may ha0 ha1 ma
  have ab := andR_may ha0 ha1 hb0 hb1 ma mb
  have l3 := Nat.or_lt_two_pow ha0 hb0
  have l4 : a1 &&& b1 < 2 ^ 64 := Nat.lt_of_le_of_lt Nat.and_le_left ha1
  intro d
  induction d with
  | zero =>
    intro k i hi hk
    obtain rfl : i = 64 := by omega
    exact places_end ha0 ha1 ma _ _ x v hv k (by omega)
  | succ d ih =>
    intro k i hi hk
    obtain ⟨k, rfl⟩ : ∃ m, k = m + 1 := ⟨k - 1, by omega⟩
    have hr : 0 ≤ (i : Int) ∧ (i : Int) < 64 := ⟨by omega, by omega⟩
    have h1 := (mayB_iff ha0 ha1).1 ma i (by omega)
    have h2 := (mayB_iff hb0 hb1).1 mb i (by omega)
    have r1 := val_range (a0.testBit i) (a1.testBit i)
    have r2 := val_range (b0.testBit i) (b1.testBit i)
    simp only [inquestlaw06_TernPlaces.l0]
    rw [if_pos (by omega), at_t ha0 ha1 ma (by omega), Option.bind_some, at_t hb0 hb1 mb (by omega), Option.bind_some, Not_is ha0 ha1, Option.bind_some, na.1, at_t ha1 ha0 na.2 (by omega), Option.bind_some, And_is ha0 ha1 hb0 hb1, Option.bind_some, ab.1, at_t l3 l4 ab.2 (by omega), Option.bind_some, if_pos rfl, if_pos rfl, (Not1_is _ r1.1 (by omega)).1, Option.bind_some, Nat.testBit_or, Nat.testBit_and]
    rw [if_pos (show val (a1.testBit i) (a0.testBit i) = if val (a0.testBit i) (a1.testBit i) = 0 then 1 else if val (a0.testBit i) (a1.testBit i) = 1 then 0 else 2 by cases e1 : a0.testBit i <;> cases e2 : a1.testBit i <;> simp [val, e1, e2] at h1 ⊢),
      And1_is _ _ r1.1 (by omega) r2.1 (by omega) k (by omega), Option.bind_some,
      if_pos (show val (a0.testBit i || b0.testBit i) (a1.testBit i && b1.testBit i) = and1 (val (a0.testBit i) (a1.testBit i)) (val (b0.testBit i) (b1.testBit i)) by cases e1 : a0.testBit i <;> cases e2 : a1.testBit i <;> cases e3 : b0.testBit i <;> cases e4 : b1.testBit i <;> simp [val, and1, e1, e2, e3, e4] at h1 h2 ⊢),
      if_neg (by have := r1.2; omega), w64 (by omega)]
    exact ih k (i + 1) (by omega) (by omega)
theorem TernPlaces_pure {a0 a1 b0 b1 : Nat} (ha0 : a0 < 2 ^ 64) (ha1 : a1 < 2 ^ 64) (hb0 : b0 < 2 ^ 64) (hb1 : b1 < 2 ^ 64) (i v : Int) (hv : 0 ≤ v) : inquestlaw06_TernPlaces.f 300 a0 a1 b0 b1 i v = some true := by
  have short : (mayB a0 a1 && mayB b0 b1) = false → inquestlaw06_TernPlaces.j0 300 i v true a0 a1 b0 b1 = some true := by
    intro hm
    have ea : andR a0 a1 b0 b1 = (18446744073709551615, 0) := by unfold andR; rw [hm]; rfl
    have ew : withinR a0 a1 b0 b1 = 0 := by unfold withinR; rw [hm]; rfl
    show inquestlaw06_TernPlaces.j0 (299 + 1) i v true a0 a1 b0 b1 = some true
    simp only [inquestlaw06_TernPlaces.j0]
    rw [if_pos trivial, All_is, Option.bind_some, And_is ha0 ha1 hb0 hb1, Option.bind_some, ea, if_pos (by simp [allR]), Within_is ha0 ha1 hb0 hb1, Option.bind_some, ew, if_pos (by rfl), lives_is]
    rfl
  unfold inquestlaw06_TernPlaces.f
  rw [may_is ha0 ha1, Option.bind_some]
  by_cases ma : mayB a0 a1 = true
  · rw [if_pos ma, may_is hb0 hb1, Option.bind_some]
    by_cases mb : mayB b0 b1 = true
    · rw [mb]
      show inquestlaw06_TernPlaces.j0 (299 + 1) i v false a0 a1 b0 b1 = some true
      simp only [inquestlaw06_TernPlaces.j0]
      rw [if_neg (by simp)]
      exact places_loop ha0 ha1 hb0 hb1 ma mb i v hv 64 299 0 (by omega) (by omega)
    · have mb' : mayB b0 b1 = false := by simpa using mb
      rw [mb']
      exact short (by simp [mb'])
  · rw [if_neg ma]
    exact short (by simp [show mayB a0 a1 = false by simpa using ma])
theorem TernPlaces_walk (a b c d i v : Int) (W : World) (wa : (Lit.int .u64 a).wf = true) (wb : (Lit.int .u64 b).wf = true) (wc : (Lit.int .u64 c).wf = true) (wd : (Lit.int .u64 d).wf = true) (_wi : (Lit.int .i64 i).wf = true) (wv : (Lit.int .u8 v).wf = true) :
    Calls Try.prog 5 #[.agg #[.int .u64 a, .int .u64 b], .agg #[.int .u64 c, .int .u64 d], .int .i64 i, .int .u8 v] W fun e w' => e = .returned (.bool true) ∧ Below W.heap.size W w' := by
  obtain ⟨a, rfl, ha⟩ := nat_of_u64 wa
  obtain ⟨b, rfl, hb⟩ := nat_of_u64 wb
  obtain ⟨c, rfl, hc⟩ := nat_of_u64 wc
  obtain ⟨d, rfl, hd⟩ := nat_of_u64 wd
  exact inquestlaw06_TernPlaces.calls 300 _ _ _ _ _ _ true W ⟨rfl⟩ (TernPlaces_pure ha hb hc hd i v (u8_of wv).1)
end Go.Proofs.Ythpnooookkpkaaa.T

namespace Go.Proofs.Ythpnooookkpkaaa.ternPlaces
open Go.ChangeShapes Go.WideShapes Go.ChangeAt Go.RowKit Go.Joins
open Go.ChangeMaps (open_string shut_string)
set_option linter.unusedVariables false
theorem own : ownKnob Try.prog.godebug = none := by kernel_rfl
theorem laidOut : laidOutB Try.prog = true := by kernel_rfl
theorem cells24 : Try.prog.cellsOf 24 = 2 := by kernel_rfl
set_option maxRecDepth 100000 in
theorem lifted (os : Os) (started : os.Started) (H : Type) (enc : TypeId × Value → H) :
    ReturnsInHanded {} Try.checked os 5 .any (Rows.ternPlacesSpec.pre6 enc Try.prog Try.f5 Rows.ternPlacesRow.domain false) (Rows.ternPlacesSpec.post enc Try.prog Try.f5 false true false false) := by
  refine returnsInHanded_of_change_sized (C := Try.checked) own started (by kernel_rfl) Try.func5
    (ChangeSpec.witness6 (enc := enc) (C := Try.checked) false ⟨#[], #[.agg #[.int .u64 0, .int .u64 0], .agg #[.int .u64 0, .int .u64 0], .int .i64 0, .int .u8 0], []⟩ 8 (by kernel_rfl) (by kernel_rfl) (by kernel_rfl) (by kernel_rfl)) ?_
  intro W base args ds gs before hval0 hW hcnd hsz0 _
  have hsz : (DataW.weightsEach Try.prog (Try.f5.params.toList ++ Rows.ternPlacesSpec.plain.varTypes Try.prog) (ds ++ gs)).all (· ≤ reachBytes) = true := hsz0
  have hval : ∀ (j : Nat) t v, Try.f5.params[j]? = some t → args[j]? = some v → Value.okWide Try.prog W .any base t v := hval0
  have hW' := hW
  obtain ⟨p, q, hA0, hV, rfl, hfz, hnd⟩ := hW
  have hA : DataW.TrodAll enc Try.prog W 0 (fun _ => true) true Try.f5.params.toList args.toList ds p := hA0
  rw [Try.params5] at hA hval hsz
  obtain ⟨v0, vs0, d0, ds0, p0, q0, hargs, rfl, rfl, h0, r0⟩ := trodAll_cons hA
  obtain ⟨v1, vs1, d1, ds1, p1, q1, rfl, rfl, rfl, h1, r1⟩ := trodAll_cons r0
  obtain ⟨v2, vs2, d2, ds2, p2, q2, rfl, rfl, rfl, h2, r2⟩ := trodAll_cons r1
  obtain ⟨v3, vs3, d3, ds3, p3, q3, rfl, rfl, rfl, h3, r3⟩ := trodAll_cons r2
  obtain ⟨rfl, rfl, rfl⟩ := trodAll_nil r3
  obtain rfl : args = #[v0, v1, v2, v3] := by cases args; simp_all
  obtain ⟨rfl, rfl⟩ := trodVars_none hV
  have k0 := h0
  have lt0 : ∀ x ∈ p0, x.block < W.heap.size := by obtain ⟨m, hm⟩ := k0; exact DataW.trod_lt m _ _ _ hm
  obtain ⟨e0_0, e0_1, y0_0, y0_1, m0, rfl, hd0, hp0, hy0_0, hy0_1⟩ := open_agg2 Try.underlying24 (by kernel_rfl) cells24 (hval 0 24 v0 rfl rfl) h0
  obtain ⟨a0_0, z0_0, hx0_0, w0_0⟩ := DataW.trod_int Try.underlying22 hy0_0
  simp at z0_0
  subst z0_0
  obtain ⟨a0_1, z0_1, hx0_1, w0_1⟩ := DataW.trod_int Try.underlying22 hy0_1
  simp at z0_1
  subst z0_1
  have k1 := h1
  have lt1 : ∀ x ∈ p1, x.block < W.heap.size := by obtain ⟨m, hm⟩ := k1; exact DataW.trod_lt m _ _ _ hm
  obtain ⟨e1_0, e1_1, y1_0, y1_1, m1, rfl, hd1, hp1, hy1_0, hy1_1⟩ := open_agg2 Try.underlying24 (by kernel_rfl) cells24 (hval 1 24 v1 rfl rfl) h1
  obtain ⟨a1_0, z1_0, hx1_0, w1_0⟩ := DataW.trod_int Try.underlying22 hy1_0
  simp at z1_0
  subst z1_0
  obtain ⟨a1_1, z1_1, hx1_1, w1_1⟩ := DataW.trod_int Try.underlying22 hy1_1
  simp at z1_1
  subst z1_1
  have k2 := h2
  have lt2 : ∀ x ∈ p2, x.block < W.heap.size := by obtain ⟨m, hm⟩ := k2; exact DataW.trod_lt m _ _ _ hm
  obtain ⟨a2, rfl, hd2, hp2, w2⟩ := open_int Try.underlying3 (hval 2 3 v2 rfl rfl) h2
  have k3 := h3
  have lt3 : ∀ x ∈ p3, x.block < W.heap.size := by obtain ⟨m, hm⟩ := k3; exact DataW.trod_lt m _ _ _ hm
  obtain ⟨a3, rfl, hd3, hp3, w3⟩ := open_int Try.underlying5 (hval 3 5 v3 rfl rfl) h3
  clear hA0 hval0 hsz0 hsz
  refine (T.TernPlaces_walk a0_0 a0_1 a1_0 a1_1 a2 a3 W w0_0 w0_1 w1_0 w1_1 w2 w3).mono fun e W' ⟨he, bel⟩ => ?_
  subst he
  exact ⟨_, rfl, _, _, _, [], _, [], hW', trodAll_mk1 (shut_bool Try.underlying4 _), (trodAll_cons_mk (Below.trod laidOut (by kernel_rfl) (of_decide_eq_true (by kernel_rfl)) k0 bel lt0) (trodAll_cons_mk (Below.trod laidOut (by kernel_rfl) (of_decide_eq_true (by kernel_rfl)) k1 bel lt1) (trodAll_cons_mk (Below.trod laidOut (by kernel_rfl) (of_decide_eq_true (by kernel_rfl)) k2 bel lt2) (trodAll_cons_mk (Below.trod laidOut (by kernel_rfl) (of_decide_eq_true (by kernel_rfl)) k3 bel lt3) trodAll_mk0)))), rfl, bel.frame _, fun h => by cases h⟩
theorem over : Rows.ternPlacesRow.holds Try.pinned (OpenSpec.ofChange Rows.ternPlacesSpec) :=
  OpenClaim.holds_of_wide 5 Try.f5 rfl rfl rfl rfl rfl rfl rfl ⟨rfl, rfl, rfl, rfl, rfl⟩ rfl rfl rfl rfl rfl (by kernel_rfl) Try.func5 (by kernel_rfl)
    (of_decide_eq_true (by kernel_rfl)) (by unfold Func.isWrapper; first | (rw [if_pos (by decide +kernel)]; kernel_rfl) | (rw [if_neg (by decide +kernel)]; exact ⟨rfl, rfl⟩))
    (fun os started H enc _ => lifted os started H enc)
theorem proved : Rows.TernPlacesSaid := over
#print axioms proved
end Go.Proofs.Ythpnooookkpkaaa.ternPlaces
namespace Go.Proofs.Ythpnooookkpkaaa
/-- The row, under a short name, for the claim. -/
theorem ternPlaces_holds : Rows.TernPlacesSaid := ternPlaces.proved
end Go.Proofs.Ythpnooookkpkaaa
