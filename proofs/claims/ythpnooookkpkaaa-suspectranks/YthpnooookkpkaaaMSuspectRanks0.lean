/- Texts of this session for the claim of SuspectRanks: functions of the program as plain Lean functions, that the machine's calls come to them, and plain facts of these. -/
import Derived.Test.YthpnooookkpkaaaProg
import Derived.Below
import Derived.Deep.Draws
import Derived.Deep.AppendLies
import Derived.Maps.AppendAt
import Derived.OwnWalk
import Derived.Laws.BytesArg
import Derived.Laws.MakeOwn
import Derived.Laws.OwnMore
import Derived.Deep.OwnRows
import Derived.Tactics
import Derived.Lib.ConvBytes
import Derived.Laws.Slices
import Derived.WalkKit
import Derived.KernelRfl
import Derived.RowKit3
import Derived.Deep.LoopGhost
import Derived.Deep.QuietTactic
import Derived.BigQuiet
import Derived.WideLaws
import Derived.Deep.DeepCutAuto
import Derived.Deep.CutBlock
import Derived.Deep.RegionHeld3
import Derived.Laws.Rows
import Derived.Lib.AppendStr
import Derived.ArgAppend
import Derived.Laws.IdiomCopy
import Derived.OrdersHeld
import Derived.Laws.BitsLemmas
import Derived.RowKit
import Derived.Test.YthpnooookkpkaaaWWords
import Derived.Test.YthpnooookkpkaaaWLast
import Derived.Test.YthpnooookkpkaaaWTab
import Derived.Test.YthpnooookkpkaaaWFour
import Derived.Test.YthpnooookkpkaaaWQPut
import Derived.Test.YthpnooookkpkaaaWApart
import Derived.Test.YthpnooookkpkaaaWArr
import Derived.Test.YthpnooookkpkaaaWZeros
import Derived.Test.YthpnooookkpkaaaWFoot
import Derived.Test.YthpnooookkpkaaaWKept
import Derived.Test.YthpnooookkpkaaaWShare
import Derived.Test.YthpnooookkpkaaaWN
import Derived.Test.YthpnooookkpkaaaWFootNe
import Derived.Test.YthpnooookkpkaaaWAt
import Derived.Test.YthpnooookkpkaaaWEqStruct
import Derived.Test.YthpnooookkpkaaaWRepsOne
import Derived.Test.YthpnooookkpkaaaWInv
import Derived.Test.YthpnooookkpkaaaWInvWords
import Derived.Test.YthpnooookkpkaaaWGuard
import Derived.Test.YthpnooookkpkaaaWNEv
import Derived.Test.YthpnooookkpkaaaWMore
import Derived.LoopN
import Derived.Sort.Walk7
import Derived.Laws.NewBlocks
import Derived.Shelf.Abstract
import Derived.Deep.RegionWith
import Derived.Shelf.SlGeneric
import Derived.Shelf.SlSortCmp.NoneTotal
import Derived.Ground.SlsfProg
import Derived.Maps.OwnSet
import Derived.Maps.OwnOps
import Derived.DeepKeys4
/- A function of the program as a plain Lean function, and that the machine's call comes to it: written by a program of this session over the kit's print. -/
namespace Go.Proofs.Ythpnooookkpkaaa.F
open Go.RowKit Go.Proofs.YthpnooookkpkaaaW.PrintWords Go.Proofs.YthpnooookkpkaaaW.PrintLast Go.Proofs.YthpnooookkpkaaaW.PrintMore
attribute [local go_sem] max2_int min2_int max_two min_two max_three min_three max_four min_four   -- for this text's walks alone
set_option linter.unusedVariables false
set_option linter.unusedSimpArgs false



def errW : Option Int → Value
  | none => .nilIface
  | some c => .iface 0 (.int .i64 c)
theorem errW_none : errW none = .nilIface := rfl
theorem errW_some (c : Int) : errW (some c) = .iface 0 (.int .i64 c) := rfl

theorem info3 : (Try.prog.info? 3).map (fun i => (i.zero, i.size, i.bytes)) = some (some (.int .i64 0), 1, 8) := by kernel_rfl
theorem info4 : (Try.prog.info? 4).map (fun i => (i.zero, i.size, i.bytes)) = some (some (.bool false), 1, 1) := by kernel_rfl
theorem info5 : (Try.prog.info? 5).map (fun i => (i.zero, i.size, i.bytes)) = some (some (.int .u8 0), 1, 1) := by kernel_rfl
theorem info46 : (Try.prog.info? 46).map (fun i => (i.zero, i.size, i.bytes)) = some (some (.agg #[(.int .u32 0), (.int .i64 0), (.int .i64 0)]), 3, 24) := by kernel_rfl
theorem info56 : (Try.prog.info? 56).map (fun i => (i.zero, i.size, i.bytes)) = some (some (.slice none 0 0), 1, 24) := by kernel_rfl
-- the values' own types
/-! #### struct type 46 -/
structure S46 where
  f0 : Int
  f1 : Int
  f2 : Int
def z46 : S46 := ⟨(0 : Int), (0 : Int), (0 : Int)⟩
def k46 : Kd S46 := Kd.iso (Kd.pair (Kd.int .u32) (Kd.pair (Kd.int .i64) (Kd.int .i64))) (fun x : S46 => (x.f0, x.f1, x.f2))
theorem k46_heap : Kd.Heap k46 := Kd.heap_iso _ (Kd.heap_pair (Kd.heap_int .u32) (Kd.heap_pair (Kd.heap_int .i64) (Kd.heap_int .i64)))
theorem k46_open {w : World} {x : S46} {cs : List Value} (h : k46.K w x cs) : cs = [.int .u32 x.f0, .int .i64 x.f1, .int .i64 x.f2] := by
  obtain ⟨_, _, rfl, rfl, ⟨_, _, rfl, rfl, rfl⟩⟩ := h
  exact rfl
theorem k46_openM {w : World} {base : Nat} {ok : Nat → Prop} {x : S46} {cs : List Value} (h : k46.M w base ok x cs) : cs = [.int .u32 x.f0, .int .i64 x.f1, .int .i64 x.f2] := by
  obtain ⟨_, _, rfl, rfl, ⟨_, _, rfl, rfl, rfl⟩⟩ := h
  exact rfl
theorem k46_mk (w : World) (x : S46)  : k46.K w x [.int .u32 x.f0, .int .i64 x.f1, .int .i64 x.f2] := ⟨[.int .u32 x.f0], [.int .i64 x.f1, .int .i64 x.f2], rfl, rfl, ⟨[.int .i64 x.f1], [.int .i64 x.f2], rfl, rfl, rfl⟩⟩
theorem k46_mkM (w : World) (base : Nat) (ok : Nat → Prop) (x : S46)  : k46.M w base ok x [.int .u32 x.f0, .int .i64 x.f1, .int .i64 x.f2] := ⟨[.int .u32 x.f0], [.int .i64 x.f1, .int .i64 x.f2], rfl, rfl, ⟨[.int .i64 x.f1], [.int .i64 x.f2], rfl, rfl, rfl⟩⟩
theorem k46_mkF (W : World) (ok : Nat → Prop) (x : S46) : Kd.FK k46 W ok x [.int .u32 x.f0, .int .i64 x.f1, .int .i64 x.f2] := fun W2 _ => k46_mk W2 x
def rd_T46 (xs : List S46) (i : Int) : S46 := xs.getD i.toNat z46
theorem at_T46 {w : World} {A : Option Addr} {n : Nat} {xs : List S46} (h : Kd.C k46 w A n xs) (i : Int) (h0 : 0 ≤ i) (h1 : i < n) : ∃ ad , A = some ad ∧ w.cell? (ad.add (i.toNat * 3)) = some (.int .u32 (rd_T46 xs i).f0) ∧ w.cell? ⟨(ad.add (i.toNat * 3)).block, (ad.add (i.toNat * 3)).off + 1, none⟩ = some (.int .i64 (rd_T46 xs i).f1) ∧ w.cell? ⟨(ad.add (i.toNat * 3)).block, (ad.add (i.toNat * 3)).off + 2, none⟩ = some (.int .i64 (rd_T46 xs i).f2) := by
  obtain ⟨ad, c, e, _, hK, hc0⟩ := Kd.C_get h z46 i h0 h1
  have hc : ∀ j u, c[j]? = some u → w.cell? (ad.add (i.toNat * 3 + j)) = some u := hc0
  obtain rfl := k46_open hK
  exact ⟨ad, e, hc 0 _ rfl, by rw [← add_field _ _ 1 (by omega)]; exact hc 1 _ rfl, by rw [← add_field _ _ 2 (by omega)]; exact hc 2 _ rfl⟩

def rd_L4 (xs : List (List Int)) (i : Int) : (List Int) := xs.getD i.toNat ([] : List Int)
theorem at_L4 {w : World} {A : Option Addr} {n : Nat} {xs : List (List Int)} (h : Kd.C (Kd.slice 3 (Kd.int .i64)) w A n xs) (i : Int) (h0 : 0 ≤ i) (h1 : i < n) : ∃ ad A0 c0, A = some ad ∧ w.cell? (ad.add i.toNat) = some (.slice A0 (rd_L4 xs i).length c0) ∧ (rd_L4 xs i).length ≤ c0 ∧ (Kd.int .i64).C w A0 (rd_L4 xs i).length (rd_L4 xs i) := by
  obtain ⟨ad, c, e, _, hK, hc0⟩ := Kd.C_get h ([] : List Int) i h0 h1
  have hc : ∀ j u, c[j]? = some u → w.cell? (ad.add (i.toNat * 1 + j)) = some u := hc0
  obtain ⟨A0, c0, rfl, l0, g0⟩ := hK
  exact ⟨ad, A0, c0, e, by have hq := hc 0 _ rfl; rwa [Nat.mul_one, Nat.add_zero] at hq, l0, g0⟩

end Go.Proofs.Ythpnooookkpkaaa.F
/- A function of the program as a plain Lean function, and that the machine's call comes to it: written by a program of this session over the kit's print. -/
namespace Go.Proofs.Ythpnooookkpkaaa.F
open Go.RowKit Go.Proofs.YthpnooookkpkaaaW.PrintWords Go.Proofs.YthpnooookkpkaaaW.PrintLast Go.Proofs.YthpnooookkpkaaaW.PrintMore
attribute [local go_sem] max2_int min2_int max_two min_two max_three min_three max_four min_four   -- for this text's walks alone
set_option linter.unusedVariables false
set_option linter.unusedSimpArgs false

/-! ### cmp_isNaN_int: function 94 -/
def cmp_isNaN_int.f (a0 : Int) : Option (Bool) := some (a0 != a0)
set_option maxHeartbeats 8000000 in
set_option maxRecDepth 100000 in
theorem cmp_isNaN_int.calls (a0 : Int) (r : Bool) (w : World) (h : cmp_isNaN_int.f a0 = some r) :
    Calls Try.prog 94 #[.int .i64 a0] w fun e w' => e = .returned (.bool r) ∧ Drawn0 w w' := by
  have H : (some (a0 != a0)) = some r := h
  clear h
  obtain rfl := Option.some.inj H
  go_enter Try.func94, Try.ntmps94
  go_wp2
  go_ret
  exact ⟨by first | rfl | (simp; done) | (simp [*]; done), by repeat (first | exact Drawn0.refl _ | apply Drawn0.step)⟩

end Go.Proofs.Ythpnooookkpkaaa.F
/- A function of the program as a plain Lean function, and that the machine's call comes to it: written by a program of this session over the kit's print. -/
namespace Go.Proofs.Ythpnooookkpkaaa.F
open Go.RowKit Go.Proofs.YthpnooookkpkaaaW.PrintWords Go.Proofs.YthpnooookkpkaaaW.PrintLast Go.Proofs.YthpnooookkpkaaaW.PrintMore
attribute [local go_sem] max2_int min2_int max_two min_two max_three min_three max_four min_four   -- for this text's walks alone
set_option linter.unusedVariables false
set_option linter.unusedSimpArgs false

/-! ### cmp_Compare_int: function 70 -/
def cmp_Compare_int.f (a0 : Int) (a1 : Int) : Option (Int) := (cmp_isNaN_int.f a0).bind fun t101 => ((cmp_isNaN_int.f a1).bind fun t102 => (if t101 = true then (if t102 = true then (some 0) else (some (-1))) else (if t102 = true then (some 1) else (if a0 < a1 then (some (-1)) else (if a0 > a1 then (some 1) else (some 0))))))
set_option maxHeartbeats 8000000 in
set_option maxRecDepth 100000 in
theorem cmp_Compare_int.calls (a0 : Int) (a1 : Int) (r : Int) (w : World) (h : cmp_Compare_int.f a0 a1 = some r) :
    Calls Try.prog 70 #[.int .i64 a0, .int .i64 a1] w fun e w' => e = .returned (.int .i64 r) ∧ Drawn0 w w' := by
  have H : ((cmp_isNaN_int.f a0).bind fun t101 => ((cmp_isNaN_int.f a1).bind fun t102 => (if t101 = true then (if t102 = true then (some 0) else (some (-1))) else (if t102 = true then (some 1) else (if a0 < a1 then (some (-1)) else (if a0 > a1 then (some 1) else (some 0))))))) = some r := h
  clear h
  replace H := Option.bind_eq_some_iff.mp H
  obtain ⟨t101, A30, H⟩ := H
  replace H : ((cmp_isNaN_int.f a1).bind fun t102 => (if t101 = true then (if t102 = true then (some 0) else (some (-1))) else (if t102 = true then (some 1) else (if a0 < a1 then (some (-1)) else (if a0 > a1 then (some 1) else (some 0)))))) = some r := H
  have A3 := Aside0.mk A30
  clear A30
  replace H := Option.bind_eq_some_iff.mp H
  obtain ⟨t102, A40, H⟩ := H
  replace H : (if t101 = true then (if t102 = true then (some 0) else (some (-1))) else (if t102 = true then (some 1) else (if a0 < a1 then (some (-1)) else (if a0 > a1 then (some 1) else (some 0))))) = some r := H
  have A4 := Aside0.mk A40
  clear A40
  by_cases c5 : t101 = true
  · subst c5
    have H1 : (if t102 = true then (some 0) else (some (-1))) = some r := by rw [if_pos rfl] at H; exact H
    clear H
    have H := H1
    clear H1
    by_cases c6 : t102 = true
    · subst c6
      have H1 : (some 0) = some r := by rw [if_pos rfl] at H; exact H
      clear H
      have H := H1
      clear H1
      obtain rfl := Option.some.inj H
      go_enter Try.func70, Try.ntmps70
      go_wp2_with (first | ((with_reducible refine gate_callee (f := 94) rfl ?_); refine goesL_ (some 8) rfl rfl Try.func94 (by kernel_rfl) rfl #[.int .i64 a0] rfl (by (try simp only [List.map_toArray, List.map_cons, List.map_nil]); first | done | rfl | (simp only [List.length_drop, List.length_take]; rfl)) ?_; (with_reducible refine (cmp_isNaN_int.calls a0 true _ A3.out).mono ?_); rintro e w' ⟨rfl, ⟨nd, rfl⟩⟩; refine ⟨_, rfl, ?_⟩) | ((with_reducible refine gate_callee (f := 94) rfl ?_); refine goesL_ (some 10) rfl rfl Try.func94 (by kernel_rfl) rfl #[.int .i64 a1] rfl (by (try simp only [List.map_toArray, List.map_cons, List.map_nil]); first | done | rfl | (simp only [List.length_drop, List.length_take]; rfl)) ?_; (with_reducible refine (cmp_isNaN_int.calls a1 true _ A4.out).mono ?_); rintro e w' ⟨rfl, ⟨nd, rfl⟩⟩; refine ⟨_, rfl, ?_⟩))
      go_ret
      exact ⟨by first | rfl | (simp; done) | (simp [*]; done), by repeat (first | exact Drawn0.refl _ | apply Drawn0.step)⟩
    · replace c6 := Bool.eq_false_iff.mpr c6
      subst c6
      have H1 : (some (-1)) = some r := by rw [if_neg (show ¬ (false = true) by decide)] at H; exact H
      clear H
      have H := H1
      clear H1
      obtain rfl := Option.some.inj H
      go_enter Try.func70, Try.ntmps70
      go_wp2_with (first | ((with_reducible refine gate_callee (f := 94) rfl ?_); refine goesL_ (some 8) rfl rfl Try.func94 (by kernel_rfl) rfl #[.int .i64 a0] rfl (by (try simp only [List.map_toArray, List.map_cons, List.map_nil]); first | done | rfl | (simp only [List.length_drop, List.length_take]; rfl)) ?_; (with_reducible refine (cmp_isNaN_int.calls a0 true _ A3.out).mono ?_); rintro e w' ⟨rfl, ⟨nd, rfl⟩⟩; refine ⟨_, rfl, ?_⟩) | ((with_reducible refine gate_callee (f := 94) rfl ?_); refine goesL_ (some 10) rfl rfl Try.func94 (by kernel_rfl) rfl #[.int .i64 a1] rfl (by (try simp only [List.map_toArray, List.map_cons, List.map_nil]); first | done | rfl | (simp only [List.length_drop, List.length_take]; rfl)) ?_; (with_reducible refine (cmp_isNaN_int.calls a1 false _ A4.out).mono ?_); rintro e w' ⟨rfl, ⟨nd, rfl⟩⟩; refine ⟨_, rfl, ?_⟩))
      go_ret
      exact ⟨by first | rfl | (simp; done) | (simp [*]; done), by repeat (first | exact Drawn0.refl _ | apply Drawn0.step)⟩
  · replace c5 := Bool.eq_false_iff.mpr c5
    subst c5
    have H1 : (if t102 = true then (some 1) else (if a0 < a1 then (some (-1)) else (if a0 > a1 then (some 1) else (some 0)))) = some r := by rw [if_neg (show ¬ (false = true) by decide)] at H; exact H
    clear H
    have H := H1
    clear H1
    by_cases c7 : t102 = true
    · subst c7
      have H1 : (some 1) = some r := by rw [if_pos rfl] at H; exact H
      clear H
      have H := H1
      clear H1
      obtain rfl := Option.some.inj H
      go_enter Try.func70, Try.ntmps70
      go_wp2_with (first | ((with_reducible refine gate_callee (f := 94) rfl ?_); refine goesL_ (some 8) rfl rfl Try.func94 (by kernel_rfl) rfl #[.int .i64 a0] rfl (by (try simp only [List.map_toArray, List.map_cons, List.map_nil]); first | done | rfl | (simp only [List.length_drop, List.length_take]; rfl)) ?_; (with_reducible refine (cmp_isNaN_int.calls a0 false _ A3.out).mono ?_); rintro e w' ⟨rfl, ⟨nd, rfl⟩⟩; refine ⟨_, rfl, ?_⟩) | ((with_reducible refine gate_callee (f := 94) rfl ?_); refine goesL_ (some 10) rfl rfl Try.func94 (by kernel_rfl) rfl #[.int .i64 a1] rfl (by (try simp only [List.map_toArray, List.map_cons, List.map_nil]); first | done | rfl | (simp only [List.length_drop, List.length_take]; rfl)) ?_; (with_reducible refine (cmp_isNaN_int.calls a1 true _ A4.out).mono ?_); rintro e w' ⟨rfl, ⟨nd, rfl⟩⟩; refine ⟨_, rfl, ?_⟩))
      go_ret
      exact ⟨by first | rfl | (simp; done) | (simp [*]; done), by repeat (first | exact Drawn0.refl _ | apply Drawn0.step)⟩
    · replace c7 := Bool.eq_false_iff.mpr c7
      subst c7
      have H1 : (if a0 < a1 then (some (-1)) else (if a0 > a1 then (some 1) else (some 0))) = some r := by rw [if_neg (show ¬ (false = true) by decide)] at H; exact H
      clear H
      have H := H1
      clear H1
      by_cases c8 : a0 < a1
      · rw [if_pos c8] at H
        have c8b0 : decide (a0 < a1) = true := decide_eq_true c8
        clear c8
        obtain rfl := Option.some.inj H
        go_enter Try.func70, Try.ntmps70
        go_wp2_with (first | ((with_reducible refine gate_callee (f := 94) rfl ?_); refine goesL_ (some 8) rfl rfl Try.func94 (by kernel_rfl) rfl #[.int .i64 a0] rfl (by (try simp only [List.map_toArray, List.map_cons, List.map_nil]); first | done | rfl | (simp only [List.length_drop, List.length_take]; rfl)) ?_; (with_reducible refine (cmp_isNaN_int.calls a0 false _ A3.out).mono ?_); rintro e w' ⟨rfl, ⟨nd, rfl⟩⟩; refine ⟨_, rfl, ?_⟩) | ((with_reducible refine gate_callee (f := 94) rfl ?_); refine goesL_ (some 10) rfl rfl Try.func94 (by kernel_rfl) rfl #[.int .i64 a1] rfl (by (try simp only [List.map_toArray, List.map_cons, List.map_nil]); first | done | rfl | (simp only [List.length_drop, List.length_take]; rfl)) ?_; (with_reducible refine (cmp_isNaN_int.calls a1 false _ A4.out).mono ?_); rintro e w' ⟨rfl, ⟨nd, rfl⟩⟩; refine ⟨_, rfl, ?_⟩))
        go_ret
        exact ⟨by first | rfl | (simp; done) | (simp [*]; done), by repeat (first | exact Drawn0.refl _ | apply Drawn0.step)⟩
      · rw [if_neg c8] at H
        have c8b0 : decide (a0 < a1) = false := decide_eq_false c8
        clear c8
        by_cases c9 : a0 > a1
        · rw [if_pos c9] at H
          have c9b0 : decide (a1 < a0) = true := decide_eq_true c9
          clear c9
          obtain rfl := Option.some.inj H
          go_enter Try.func70, Try.ntmps70
          go_wp2_with (first | ((with_reducible refine gate_callee (f := 94) rfl ?_); refine goesL_ (some 8) rfl rfl Try.func94 (by kernel_rfl) rfl #[.int .i64 a0] rfl (by (try simp only [List.map_toArray, List.map_cons, List.map_nil]); first | done | rfl | (simp only [List.length_drop, List.length_take]; rfl)) ?_; (with_reducible refine (cmp_isNaN_int.calls a0 false _ A3.out).mono ?_); rintro e w' ⟨rfl, ⟨nd, rfl⟩⟩; refine ⟨_, rfl, ?_⟩) | ((with_reducible refine gate_callee (f := 94) rfl ?_); refine goesL_ (some 10) rfl rfl Try.func94 (by kernel_rfl) rfl #[.int .i64 a1] rfl (by (try simp only [List.map_toArray, List.map_cons, List.map_nil]); first | done | rfl | (simp only [List.length_drop, List.length_take]; rfl)) ?_; (with_reducible refine (cmp_isNaN_int.calls a1 false _ A4.out).mono ?_); rintro e w' ⟨rfl, ⟨nd, rfl⟩⟩; refine ⟨_, rfl, ?_⟩))
          go_ret
          exact ⟨by first | rfl | (simp; done) | (simp [*]; done), by repeat (first | exact Drawn0.refl _ | apply Drawn0.step)⟩
        · rw [if_neg c9] at H
          have c9b0 : decide (a1 < a0) = false := decide_eq_false c9
          clear c9
          obtain rfl := Option.some.inj H
          go_enter Try.func70, Try.ntmps70
          go_wp2_with (first | ((with_reducible refine gate_callee (f := 94) rfl ?_); refine goesL_ (some 8) rfl rfl Try.func94 (by kernel_rfl) rfl #[.int .i64 a0] rfl (by (try simp only [List.map_toArray, List.map_cons, List.map_nil]); first | done | rfl | (simp only [List.length_drop, List.length_take]; rfl)) ?_; (with_reducible refine (cmp_isNaN_int.calls a0 false _ A3.out).mono ?_); rintro e w' ⟨rfl, ⟨nd, rfl⟩⟩; refine ⟨_, rfl, ?_⟩) | ((with_reducible refine gate_callee (f := 94) rfl ?_); refine goesL_ (some 10) rfl rfl Try.func94 (by kernel_rfl) rfl #[.int .i64 a1] rfl (by (try simp only [List.map_toArray, List.map_cons, List.map_nil]); first | done | rfl | (simp only [List.length_drop, List.length_take]; rfl)) ?_; (with_reducible refine (cmp_isNaN_int.calls a1 false _ A4.out).mono ?_); rintro e w' ⟨rfl, ⟨nd, rfl⟩⟩; refine ⟨_, rfl, ?_⟩))
          go_ret
          exact ⟨by first | rfl | (simp; done) | (simp [*]; done), by repeat (first | exact Drawn0.refl _ | apply Drawn0.step)⟩

end Go.Proofs.Ythpnooookkpkaaa.F
/- A function of the program as a plain Lean function, and that the machine's call comes to it: written by a program of this session over the kit's print. -/
namespace Go.Proofs.Ythpnooookkpkaaa.F
open Go.RowKit Go.Proofs.YthpnooookkpkaaaW.PrintWords Go.Proofs.YthpnooookkpkaaaW.PrintLast Go.Proofs.YthpnooookkpkaaaW.PrintMore
attribute [local go_sem] max2_int min2_int max_two min_two max_three min_three max_four min_four   -- for this text's walks alone
set_option linter.unusedVariables false
set_option linter.unusedSimpArgs false

/-! ### suspect_within: function 83 -/
def suspect_within.f (a0 : Int) : Option (Int) := some (mn (mx a0 0) 64)
set_option maxHeartbeats 8000000 in
set_option maxRecDepth 100000 in
theorem suspect_within.calls (a0 : Int) (r : Int) (w : World) (h : suspect_within.f a0 = some r) :
    Calls Try.prog 83 #[.int .i64 a0] w fun e w' => e = .returned (.int .i64 r) ∧ Below w.heap.size w w' := by
  have HB := Aside0.mk (Below.refl w.heap.size w)
  have H : (some (mn (mx a0 0) 64)) = some r := h
  clear h
  obtain ⟨ji2, hji2⟩ : ∃ j_ : Int, (mx a0 0) = j_ := ⟨_, rfl⟩
  replace H : (some (mn (ji2) 64)) = some r := by first | (rw [hji2] at H; exact H) | (simp only [hji2] at H ⊢; exact H)
  (try (have hji2l : 0 ≤ ji2 := by (rw [← hji2]; unfold mx; (repeat' split) <;> omega)))
  (try (have hji2m : 0 ≤ ji2 := by omega))
  have hji2_ : (if a0 < 0 then 0 else a0) = ji2 := hji2
  obtain ⟨ji3, hji3⟩ : ∃ j_ : Int, (mn (ji2) 64) = j_ := ⟨_, rfl⟩
  replace H : (some ji3) = some r := by first | (rw [hji3] at H; exact H) | (simp only [hji3] at H ⊢; exact H)
  have hji3_ : (if 64 < (ji2) then 64 else (ji2)) = ji3 := hji3
  obtain rfl := Option.some.inj H
  go_enter Try.func83, Try.ntmps83
  go_wp2
  go_ret
  exact ⟨by first | rfl | (simp [errW_none, errW_some] <;> rfl) | (simp only [← hji2, ← hji3]; first | rfl | (simp [errW_none, errW_some] <;> rfl)) | (simp [*, errW_none, errW_some] <;> rfl), by repeat (first | (with_reducible first | exact HB.out | apply below_alloc | apply pw_below_drewN | apply below_drew1) | exact HB.out)⟩

end Go.Proofs.Ythpnooookkpkaaa.F
namespace Go.Proofs.Ythpnooookkpkaaa.F
open Go.RowKit Go.Sort Go.Proofs.YthpnooookkpkaaaW.PrintWords Go.Proofs.YthpnooookkpkaaaW.PrintLast Go.Proofs.YthpnooookkpkaaaW.PrintMore
attribute [local go_sem] max2_int min2_int max_two min_two max_three min_three max_four min_four

/-- draws, and blocks behind -/
def Gr (w w' : World) : Prop := ∃ q os, w' = grow (w.drewN q) os
theorem drewN_grow (w : World) (os : Array Obj) (n : Nat) : (grow w os).drewN n = grow (w.drewN n) os := rfl
theorem Gr.refl (w : World) : Gr w w := ⟨0, #[], by rw [grow_empty]; rfl⟩
theorem Gr.trans {a b c : World} (h : Gr a b) (k : Gr b c) : Gr a c := by
  obtain ⟨q, os, rfl⟩ := h
  obtain ⟨q', os', rfl⟩ := k
  exact ⟨q + q', os ++ os', by rw [drewN_grow, grow_grow, World.drewN_drewN]⟩
theorem Gr.drewN {a b : World} (h : Gr a b) (n : Nat) : Gr a (b.drewN n) := h.trans ⟨n, #[], by rw [grow_empty]⟩
theorem Gr.drew {a b : World} (h : Gr a b) : Gr a b.drew := h.drewN 1
theorem Gr.alloc {a b : World} (h : Gr a b) (o : Obj) : Gr a (b.alloc o) := h.trans ⟨0, #[o], by rw [alloc_eq_grow]; rfl⟩
theorem wrap64 (x : Int) (h : -1000000000 ≤ x ∧ x ≤ 1000000000) : IntKind.i64.wrap x = x := by
  simp [IntKind.wrap, IntKind.bits, IntKind.signed]; omega
theorem Gr.below {a b : World} (h : Gr a b) : Below a.heap.size a b := by
  obtain ⟨q, os, rfl⟩ := h
  exact ⟨rfl, rfl, rfl, by simp [grow], fun k hk => heap_grow_old (a.drewN q) os hk⟩
def cmpI (x y : Int) : Int := if x < y then -1 else if x > y then 1 else 0
theorem isNaN_f (x : Int) : cmp_isNaN_int.f x = some false := by simp [cmp_isNaN_int.f]
theorem cmpI_f (x y : Int) : cmp_Compare_int.f x y = some (cmpI x y) := by
  unfold cmp_Compare_int.f cmpI
  simp only [isNaN_f, Option.bind_some, Bool.false_eq_true, if_false]
  split
  · rfl
  · split <;> rfl
theorem compare_c (x y : Int) (w : World) : Calls Try.prog 70 #[.int .i64 x, .int .i64 y] w fun e w' => e = .returned (.int .i64 (cmpI x y)) ∧ Gr w w' :=
  (cmp_Compare_int.calls x y _ w (cmpI_f x y)).mono fun _ _ ⟨he, n, hw⟩ => ⟨he, by rw [hw]; exact (Gr.refl w).drewN n⟩
/-- two quotients compared -/
def ratA (a b : Int) : Int := if b = 0 then 0 else a
def ratB (b : Int) : Int := if b = 0 then 1 else b
def ratC (a b c d : Int) : Int := cmpI (ratA a b * ratB d) (ratA c d * ratB b)


set_option maxHeartbeats 1000000 in
theorem ratio_c (a b c d : Int) (hb : 0 ≤ a ∧ a ≤ 10000 ∧ 0 ≤ b ∧ b ≤ 10000 ∧ 0 ≤ c ∧ c ≤ 10000 ∧ 0 ≤ d ∧ d ≤ 10000) (w : World) :
    Calls Try.prog 84 #[.agg #[.int .i64 a, .int .i64 b], .agg #[.int .i64 c, .int .i64 d]] w fun e w' => e = .returned (.int .i64 (ratC a b c d)) ∧ Gr w w' := by
  have hcon := fun x y W => compare_c x y W
  obtain ⟨ha0, ha1, hb0, hb1, hc0, hc1, hd0, hd1⟩ := hb
  have E := Aside0.mk (show ratC a b c d = cmpI (ratA a b * ratB d) (ratA c d * ratB b) from rfl)
  generalize ratC a b c d = r at E ⊢
  by_cases h1 : b = 0 <;> by_cases h2 : d = 0
  · subst h1 h2
    have E2 : r = cmpI (0 * 1) (0 * 1) := by rw [E.out]; simp [ratA, ratB]
    clear E
    subst E2
    have m1 : (0 : Int) * 1 ≤ 10000 * 10000 := Int.mul_le_mul (by omega) (by omega) (by omega) (by omega)
    have m2 : (0 : Int) * 1 ≤ 10000 * 10000 := Int.mul_le_mul (by omega) (by omega) (by omega) (by omega)
    have m3 : 0 ≤ (0 : Int) * 1 := Int.mul_nonneg (by omega) (by omega)
    have m4 : 0 ≤ (0 : Int) * 1 := Int.mul_nonneg (by omega) (by omega)
    have w1 : IntKind.i64.wrap ((0 : Int) * 1) = 0 * 1 := wrap64 _ (by omega)
    have w2 : IntKind.i64.wrap ((0 : Int) * 1) = 0 * 1 := wrap64 _ (by omega)
    have wa := wrap64 a (by omega)
    have wc := wrap64 c (by omega)
    try simp only [Int.mul_one] at w1 w2 ⊢
    go_enter Try.func84, Try.ntmps84
    go_wp2_with fail
    refine wp_loop_rounds 3 ?_
    rw [rounds_succ]
    go_wp2_with fail
    rw [rounds_succ]
    go_wp2_with fail
    rw [rounds_succ]
    go_wp2_with fail
    refine (hcon _ _ _).mono ?_
    rintro e W1 ⟨rfl, hg⟩
    go_wp2_with fail
    go_ret
    exact ⟨rfl, (by repeat (first | exact Gr.refl _ | apply Gr.alloc | apply Gr.drew | apply Gr.drewN) : Gr w _).trans hg⟩
  · subst h1
    have d0 : (d == 0) = false := by simp [h2]
    have E2 : r = cmpI (0 * d) (c * 1) := by rw [E.out]; simp [ratA, ratB, h2]
    clear E
    subst E2
    have m1 : (0 : Int) * d ≤ 10000 * 10000 := Int.mul_le_mul (by omega) (by omega) (by omega) (by omega)
    have m2 : (c : Int) * 1 ≤ 10000 * 10000 := Int.mul_le_mul (by omega) (by omega) (by omega) (by omega)
    have m3 : 0 ≤ (0 : Int) * d := Int.mul_nonneg (by omega) (by omega)
    have m4 : 0 ≤ (c : Int) * 1 := Int.mul_nonneg (by omega) (by omega)
    have w1 : IntKind.i64.wrap ((0 : Int) * d) = 0 * d := wrap64 _ (by omega)
    have w2 : IntKind.i64.wrap ((c : Int) * 1) = c * 1 := wrap64 _ (by omega)
    have wa := wrap64 a (by omega)
    have wc := wrap64 c (by omega)
    try simp only [Int.mul_one, Int.zero_mul] at w1 w2 ⊢
    go_enter Try.func84, Try.ntmps84
    go_wp2_with fail
    refine wp_loop_rounds 3 ?_
    rw [rounds_succ]
    go_wp2_with fail
    rw [rounds_succ]
    go_wp2_with fail
    rw [rounds_succ]
    go_wp2_with fail
    refine (hcon _ _ _).mono ?_
    rintro e W1 ⟨rfl, hg⟩
    go_wp2_with fail
    go_ret
    exact ⟨rfl, (by repeat (first | exact Gr.refl _ | apply Gr.alloc | apply Gr.drew | apply Gr.drewN) : Gr w _).trans hg⟩
  · subst h2
    have b0 : (b == 0) = false := by simp [h1]
    have E2 : r = cmpI (a * 1) (0 * b) := by rw [E.out]; simp [ratA, ratB, h1]
    clear E
    subst E2
    have m1 : (a : Int) * 1 ≤ 10000 * 10000 := Int.mul_le_mul (by omega) (by omega) (by omega) (by omega)
    have m2 : (0 : Int) * b ≤ 10000 * 10000 := Int.mul_le_mul (by omega) (by omega) (by omega) (by omega)
    have m3 : 0 ≤ (a : Int) * 1 := Int.mul_nonneg (by omega) (by omega)
    have m4 : 0 ≤ (0 : Int) * b := Int.mul_nonneg (by omega) (by omega)
    have w1 : IntKind.i64.wrap ((a : Int) * 1) = a * 1 := wrap64 _ (by omega)
    have w2 : IntKind.i64.wrap ((0 : Int) * b) = 0 * b := wrap64 _ (by omega)
    have wa := wrap64 a (by omega)
    have wc := wrap64 c (by omega)
    try simp only [Int.mul_one, Int.zero_mul] at w1 w2 ⊢
    go_enter Try.func84, Try.ntmps84
    go_wp2_with fail
    refine wp_loop_rounds 3 ?_
    rw [rounds_succ]
    go_wp2_with fail
    rw [rounds_succ]
    go_wp2_with fail
    rw [rounds_succ]
    go_wp2_with fail
    refine (hcon _ _ _).mono ?_
    rintro e W1 ⟨rfl, hg⟩
    go_wp2_with fail
    go_ret
    exact ⟨rfl, (by repeat (first | exact Gr.refl _ | apply Gr.alloc | apply Gr.drew | apply Gr.drewN) : Gr w _).trans hg⟩
  · have b0 : (b == 0) = false := by simp [h1]
    have d0 : (d == 0) = false := by simp [h2]
    have E2 : r = cmpI (a * d) (c * b) := by rw [E.out]; simp [ratA, ratB, h1, h2]
    clear E
    subst E2
    have m1 : (a : Int) * d ≤ 10000 * 10000 := Int.mul_le_mul (by omega) (by omega) (by omega) (by omega)
    have m2 : (c : Int) * b ≤ 10000 * 10000 := Int.mul_le_mul (by omega) (by omega) (by omega) (by omega)
    have m3 : 0 ≤ (a : Int) * d := Int.mul_nonneg (by omega) (by omega)
    have m4 : 0 ≤ (c : Int) * b := Int.mul_nonneg (by omega) (by omega)
    have w1 : IntKind.i64.wrap ((a : Int) * d) = a * d := wrap64 _ (by omega)
    have w2 : IntKind.i64.wrap ((c : Int) * b) = c * b := wrap64 _ (by omega)
    have wa := wrap64 a (by omega)
    have wc := wrap64 c (by omega)
    try simp only [Int.mul_one, Int.zero_mul] at w1 w2 ⊢
    go_enter Try.func84, Try.ntmps84
    go_wp2_with fail
    refine wp_loop_rounds 3 ?_
    rw [rounds_succ]
    go_wp2_with fail
    rw [rounds_succ]
    go_wp2_with fail
    rw [rounds_succ]
    go_wp2_with fail
    refine (hcon _ _ _).mono ?_
    rintro e W1 ⟨rfl, hg⟩
    go_wp2_with fail
    go_ret
    exact ⟨rfl, (by repeat (first | exact Gr.refl _ | apply Gr.alloc | apply Gr.drew | apply Gr.drewN) : Gr w _).trans hg⟩
end Go.Proofs.Ythpnooookkpkaaa.F
namespace Go.Proofs.Ythpnooookkpkaaa.F
open Go.RowKit Go.Sort Go.Proofs.YthpnooookkpkaaaW.PrintWords Go.Proofs.YthpnooookkpkaaaW.PrintLast Go.Proofs.YthpnooookkpkaaaW.PrintMore
attribute [local go_sem] max2_int min2_int max_two min_two max_three min_three max_four min_four

/-- a count within its bounds -/
def wth (n : Int) : Int := mn (mx n 0) 64
theorem wth_le (n : Int) : 0 ≤ wth n ∧ wth n ≤ 64 := by unfold wth mn mx; constructor <;> (repeat' split) <;> omega
theorem within_c (n : Int) (w : World) : Calls Try.prog 83 #[.int .i64 n] w fun e w' => e = .returned (.int .i64 (wth n)) ∧ w' = w := by
  rcases (show n < 0 ∨ (¬ n < 0 ∧ 64 < n) ∨ (¬ n < 0 ∧ ¬ 64 < n) by omega) with h | ⟨h, h2⟩ | ⟨h, h2⟩
  · have E : wth n = 0 := by unfold wth mn mx; rw [if_pos h]; rfl
    rw [E]; clear E
    go_enter Try.func83, Try.ntmps83
    go_wp2
    go_ret
    exact ⟨by simp, rfl⟩
  · have E : wth n = 64 := by unfold wth mn mx; rw [if_neg h, if_pos h2]
    rw [E]; clear E
    go_enter Try.func83, Try.ntmps83
    go_wp2
    go_ret
    exact ⟨by simp, rfl⟩
  · have E : wth n = n := by unfold wth mn mx; rw [if_neg h, if_neg h2]
    rw [E]; clear E
    go_enter Try.func83, Try.ntmps83
    go_wp2
    go_ret
    exact ⟨by simp, rfl⟩
theorem Gr.cell {W w : World} (h : Gr W w) {a : Addr} {v : Value} (hc : W.cell? a = some v) (hb : a.block < W.heap.size) : w.cell? a = some v := by
  obtain ⟨q, os, rfl⟩ := h
  exact (cell?_grow (W.drewN q) os a hb).trans hc
set_option maxHeartbeats 1000000 in
theorem near_c (v f p : Int) (w : World) : Calls Try.prog 57 #[.agg #[.int .u32 v, .int .i64 f, .int .i64 p]] w fun e w' => e = .returned (.agg #[.int .i64 (wth f * wth f), .int .i64 (wth f + wth p)]) ∧ Gr w w' := by
  have hf := wth_le f
  have hp := wth_le p
  have hF := fun W => within_c f W
  have hP := fun W => within_c p W
  generalize wth f = f' at hf hF ⊢
  generalize wth p = p' at hp hP ⊢
  have m1 : f' * f' ≤ 64 * 64 := Int.mul_le_mul (by omega) (by omega) (by omega) (by omega)
  have m3 : 0 ≤ f' * f' := Int.mul_nonneg (by omega) (by omega)
  have w1 : IntKind.i64.wrap (f' * f') = f' * f' := wrap64 _ (by omega)
  have w2 : IntKind.i64.wrap (f' + p') = f' + p' := wrap64 _ (by omega)
  go_enter Try.func57, Try.ntmps57
  go_wp2_with fail
  go_region_held3 (fun w' => w'.cell? ⟨w.heap.size, 1, none⟩ = some (.int .i64 f) ∧ w'.cell? ⟨w.heap.size, 2, none⟩ = some (.int .i64 p)) (go_keep)
    (first | (go_at_call_of 83 (Value.int .i64 f); refine (hF _).mono ?_; rintro e w' ⟨rfl, rfl⟩) | (go_at_call_of 83 (Value.int .i64 p); refine (hP _).mono ?_; rintro e w' ⟨rfl, rfl⟩))
  go_wp2_with fail
  exact bodyPost_ret (v := .agg #[.int .i64 _, .int .i64 _]) (by simp [results, Try.results57, go_sem]) rfl ⟨rfl, (((Gr.refl w).alloc _).alloc _).drew⟩

theorem Gr.size {W w : World} (h : Gr W w) : W.heap.size ≤ w.heap.size := h.below.size
/-- the two boxed suspects, in a world grown since -/
def Two (w2 : World) (b : Nat) (v f p v' f' p' : Int) (W : World) : Prop :=
  Gr w2 W ∧ b + 2 ≤ W.heap.size ∧ W.cell? ⟨b, 0, none⟩ = some (.int .u32 v) ∧ W.cell? ⟨b, 1, none⟩ = some (.int .i64 f) ∧ W.cell? ⟨b, 2, none⟩ = some (.int .i64 p) ∧
    W.cell? ⟨b + 1, 0, none⟩ = some (.int .u32 v') ∧ W.cell? ⟨b + 1, 1, none⟩ = some (.int .i64 f') ∧ W.cell? ⟨b + 1, 2, none⟩ = some (.int .i64 p')
theorem Two.grown {w2 W W' : World} {b : Nat} {v f p v' f' p' : Int} (h : Two w2 b v f p v' f' p' W) (g : Gr W W') : Two w2 b v f p v' f' p' W' := by
  obtain ⟨h1, h2, c0, c1, c2, d0, d1, d2⟩ := h
  exact ⟨h1.trans g, Nat.le_trans h2 g.size, g.cell c0 (by show b < _; omega), g.cell c1 (by show b < _; omega), g.cell c2 (by show b < _; omega), g.cell d0 (by show b + 1 < _; omega), g.cell d1 (by show b + 1 < _; omega), g.cell d2 (by show b + 1 < _; omega)⟩
set_option maxHeartbeats 1000000 in
theorem measure_c (g : Nat) (cb : Array Value) (A B : Int → Int → Int) (OK : World → Prop) (hOK : ∀ W W', OK W → Gr W W' → OK W')
    (eg : ∀ args w, (callFunc g args).run Try.prog w = .ok (.enter g args) w)
    (hm : ∀ v f p W, OK W → Calls Try.prog g (#[.agg #[.int .u32 v, .int .i64 f, .int .i64 p]] ++ cb) W fun e w' => e = .returned (.agg #[.int .i64 (A f p), .int .i64 (B f p)]) ∧ Gr W w')
    (hA : ∀ f p, 0 ≤ A f p ∧ A f p ≤ 10000) (hB : ∀ f p, 0 ≤ B f p ∧ B f p ≤ 10000)
    (v f p v' f' p' : Int) (w : World) (hw : OK w) :
    Calls Try.prog 58 #[.func (.func g) #[] cb, .agg #[.int .u32 v, .int .i64 f, .int .i64 p], .agg #[.int .u32 v', .int .i64 f', .int .i64 p']] w fun e w' => e = .returned (.int .i64 (ratC (A f p) (B f p) (A f' p') (B f' p'))) ∧ Gr w w' := by
  have h1 := hm v f p
  have h2 := hm v' f' p'
  have hr := fun W => ratio_c (A f p) (B f p) (A f' p') (B f' p') ⟨(hA f p).1, (hA f p).2, (hB f p).1, (hB f p).2, (hA f' p').1, (hA f' p').2, (hB f' p').1, (hB f' p').2⟩ W
  clear hm hA hB
  generalize A f p = a at h1 hr ⊢
  generalize A f' p' = a' at h2 hr ⊢
  generalize B f p = b at h1 hr ⊢
  generalize B f' p' = b' at h2 hr ⊢
  generalize ratC a b a' b' = r at hr ⊢
  have HOK := Aside0.mk hOK
  have H1 := Aside0.mk h1
  have H2 := Aside0.mk h2
  have HW := Aside0.mk hw
  clear hOK h1 h2 hw
  go_enter Try.func58, Try.ntmps58
  go_wp2_with fail
  obtain ⟨w2, hw2⟩ : ∃ w2 : World, w2 = (w.alloc (Obj.cells #[.int .u32 v, .int .i64 f, .int .i64 p] 46)).alloc (Obj.cells #[.int .u32 v', .int .i64 f', .int .i64 p'] 46) := ⟨_, rfl⟩
  rw [← hw2]
  have HG := Aside0.mk (show Gr w w2 by rw [hw2]; exact ((Gr.refl w).alloc _).alloc _)
  have h2 : Two w2 w.heap.size v f p v' f' p' w2 := by
    refine ⟨Gr.refl _, ?_, ?_, ?_, ?_, ?_, ?_, ?_⟩ <;> rw [hw2] <;> go_simp
  have HW2 := Aside0.mk (HOK.out _ _ HW.out HG.out)
  obtain ⟨s0, s1, s2, s3, s4, s5, s6, s7⟩ := h2
  clear hw2
  generalize w.heap.size = n at s0 s1 s2 s3 s4 s5 s6 s7 ⊢
  go_region_held3 (fun W => Gr w2 W ∧ n + 2 ≤ W.heap.size ∧ W.cell? ⟨n, 0, none⟩ = some (.int .u32 v) ∧ W.cell? ⟨n, 1, none⟩ = some (.int .i64 f) ∧ W.cell? ⟨n, 2, none⟩ = some (.int .i64 p) ∧
    W.cell? ⟨n + 1, 0, none⟩ = some (.int .u32 v') ∧ W.cell? ⟨n + 1, 1, none⟩ = some (.int .i64 f') ∧ W.cell? ⟨n + 1, 2, none⟩ = some (.int .i64 p')) (first | ((repeat' apply And.intro) <;> (first | assumption | exact (Gr.refl _).drew | (simp [*]; done) | (simp; omega))))
    (first
      | (go_at_fn g; refine (H1.out _ (HOK.out _ _ HW2.out (by (first | assumption | exact (Gr.refl _).drew | (simp [*]; done) | (simp; omega))))).mono ?_; rintro e w' ⟨rfl, hg⟩; obtain ⟨_, _, _, _, _, _, _, _⟩ := Two.grown (show Two w2 n v f p v' f' p' _ from ⟨by (first | assumption | exact (Gr.refl _).drew | (simp [*]; done) | (simp; omega)), by (first | assumption | exact (Gr.refl _).drew | (simp [*]; done) | (simp; omega)), by (first | assumption | exact (Gr.refl _).drew | (simp [*]; done) | (simp; omega)), by (first | assumption | exact (Gr.refl _).drew | (simp [*]; done) | (simp; omega)), by (first | assumption | exact (Gr.refl _).drew | (simp [*]; done) | (simp; omega)), by (first | assumption | exact (Gr.refl _).drew | (simp [*]; done) | (simp; omega)), by (first | assumption | exact (Gr.refl _).drew | (simp [*]; done) | (simp; omega)), by (first | assumption | exact (Gr.refl _).drew | (simp [*]; done) | (simp; omega))⟩) hg; clear hg)
      | (go_at_fn g; refine (H2.out _ (HOK.out _ _ HW2.out (by (first | assumption | exact (Gr.refl _).drew | (simp [*]; done) | (simp; omega))))).mono ?_; rintro e w' ⟨rfl, hg⟩; obtain ⟨_, _, _, _, _, _, _, _⟩ := Two.grown (show Two w2 n v f p v' f' p' _ from ⟨by (first | assumption | exact (Gr.refl _).drew | (simp [*]; done) | (simp; omega)), by (first | assumption | exact (Gr.refl _).drew | (simp [*]; done) | (simp; omega)), by (first | assumption | exact (Gr.refl _).drew | (simp [*]; done) | (simp; omega)), by (first | assumption | exact (Gr.refl _).drew | (simp [*]; done) | (simp; omega)), by (first | assumption | exact (Gr.refl _).drew | (simp [*]; done) | (simp; omega)), by (first | assumption | exact (Gr.refl _).drew | (simp [*]; done) | (simp; omega)), by (first | assumption | exact (Gr.refl _).drew | (simp [*]; done) | (simp; omega)), by (first | assumption | exact (Gr.refl _).drew | (simp [*]; done) | (simp; omega))⟩) hg; clear hg)
      | (go_at_call 84; refine (hr _).mono ?_; rintro e w' ⟨rfl, hg⟩; obtain ⟨_, _, _, _, _, _, _, _⟩ := Two.grown (show Two w2 n v f p v' f' p' _ from ⟨by (first | assumption | exact (Gr.refl _).drew | (simp [*]; done) | (simp; omega)), by (first | assumption | exact (Gr.refl _).drew | (simp [*]; done) | (simp; omega)), by (first | assumption | exact (Gr.refl _).drew | (simp [*]; done) | (simp; omega)), by (first | assumption | exact (Gr.refl _).drew | (simp [*]; done) | (simp; omega)), by (first | assumption | exact (Gr.refl _).drew | (simp [*]; done) | (simp; omega)), by (first | assumption | exact (Gr.refl _).drew | (simp [*]; done) | (simp; omega)), by (first | assumption | exact (Gr.refl _).drew | (simp [*]; done) | (simp; omega)), by (first | assumption | exact (Gr.refl _).drew | (simp [*]; done) | (simp; omega))⟩) hg; clear hg))
  go_wp2_with fail
  go_ret
  exact ⟨rfl, HG.out.trans (by assumption)⟩

def rtA (F P f : Int) : Int := if F = 0 then 0 else if P = 0 then wth f else wth f * P
def rtB (F P f p : Int) : Int := if F = 0 then 1 else if P = 0 then wth f else wth f * P + wth p * F
/-- the two counts that the measure holds -/
def Caps (a b : Addr) (F P : Int) (W : World) : Prop := a.block < W.heap.size ∧ b.block < W.heap.size ∧ W.cell? a = some (.int .i64 F) ∧ W.cell? b = some (.int .i64 P)
theorem Caps.grown {a b : Addr} {F P : Int} (W W' : World) (h : Caps a b F P W) (g : Gr W W') : Caps a b F P W' :=
  ⟨Nat.lt_of_lt_of_le h.1 g.size, Nat.lt_of_lt_of_le h.2.1 g.size, g.cell h.2.2.1 h.1, g.cell h.2.2.2 h.2.1⟩
set_option maxHeartbeats 1000000 in
theorem rate1_c (a b : Addr) (F P : Int) (hF0 : 0 ≤ F ∧ F ≤ 64) (hP0 : 0 ≤ P ∧ P ≤ 64) (v f p : Int) (w : World) (hw : Caps a b F P w) :
    Calls Try.prog 85 #[.agg #[.int .u32 v, .int .i64 f, .int .i64 p], .pointer (some a), .pointer (some b)] w fun e w' => e = .returned (.agg #[.int .i64 (rtA F P f), .int .i64 (rtB F P f p)]) ∧ Gr w w' := by
  have hf := wth_le f
  have hp := wth_le p
  have hF := fun W => within_c f W
  have hP := fun W => within_c p W
  obtain ⟨b1, b2, c1, c2⟩ := hw
  have EA := Aside0.mk (show rtA F P f = if F = 0 then 0 else if P = 0 then wth f else wth f * P from rfl)
  have EB := Aside0.mk (show rtB F P f p = if F = 0 then 1 else if P = 0 then wth f else wth f * P + wth p * F from rfl)
  generalize rtA F P f = ra at EA ⊢
  generalize rtB F P f p = rb at EB ⊢
  generalize wth f = f' at hf hF EA EB ⊢
  generalize wth p = p' at hp hP EB ⊢
  have n1 : a.block ≠ w.heap.size := by omega
  have n2 : b.block ≠ w.heap.size := by omega
  have n3 : a.block ≠ w.heap.size + 1 := by omega
  have n4 : b.block ≠ w.heap.size + 1 := by omega
  rcases (show F = 0 ∨ (F ≠ 0 ∧ P = 0) ∨ (F ≠ 0 ∧ P ≠ 0) by omega) with h | ⟨h, h2⟩ | ⟨h, h2⟩
  · have EA2 := EA.out
    have EB2 := EB.out
    rw [if_pos h] at EA2 EB2
    clear EA EB
    subst EA2 EB2 h
    go_enter Try.func85, Try.ntmps85
    go_wp2_with fail
    go_region_held3 (fun w' => w'.cell? ⟨w.heap.size, 1, none⟩ = some (.int .i64 f) ∧ w'.cell? ⟨w.heap.size, 2, none⟩ = some (.int .i64 p)) (go_keep)
      (first | (go_at_call_of 83 (Value.int .i64 f); refine (hF _).mono ?_; rintro e w' ⟨rfl, rfl⟩) | (go_at_call_of 83 (Value.int .i64 p); refine (hP _).mono ?_; rintro e w' ⟨rfl, rfl⟩))
    go_wp2_with fail
    exact bodyPost_ret (v := .agg #[.int .i64 _, .int .i64 _]) (by simp [results, Try.results85, go_sem]) rfl ⟨rfl, (((Gr.refl w).alloc _).alloc _).drew⟩
  · have EA2 := EA.out
    have EB2 := EB.out
    rw [if_neg h, if_pos h2] at EA2 EB2
    clear EA EB
    have e0 : (F == 0) = false := by simp [h]
    clear h
    subst EA2 EB2 h2
    go_enter Try.func85, Try.ntmps85
    go_wp2_with fail
    go_region_held3 (fun w' => w'.cell? ⟨w.heap.size, 1, none⟩ = some (.int .i64 f) ∧ w'.cell? ⟨w.heap.size, 2, none⟩ = some (.int .i64 p)) (go_keep)
      (first | (go_at_call_of 83 (Value.int .i64 f); refine (hF _).mono ?_; rintro e w' ⟨rfl, rfl⟩) | (go_at_call_of 83 (Value.int .i64 p); refine (hP _).mono ?_; rintro e w' ⟨rfl, rfl⟩))
    go_wp2_with fail
    exact bodyPost_ret (v := .agg #[.int .i64 _, .int .i64 _]) (by simp [results, Try.results85, go_sem]) rfl ⟨rfl, (((Gr.refl w).alloc _).alloc _).drew⟩
  · have EA2 := EA.out
    have EB2 := EB.out
    rw [if_neg h, if_neg h2] at EA2 EB2
    clear EA EB
    have e0 : (F == 0) = false := by simp [h]
    have e1 : (P == 0) = false := by simp [h2]
    clear h h2
    have m1 : f' * P ≤ 64 * 64 := Int.mul_le_mul (by omega) (by omega) (by omega) (by omega)
    have m2 : p' * F ≤ 64 * 64 := Int.mul_le_mul (by omega) (by omega) (by omega) (by omega)
    have m3 : 0 ≤ f' * P := Int.mul_nonneg (by omega) (by omega)
    have m4 : 0 ≤ p' * F := Int.mul_nonneg (by omega) (by omega)
    have x1 : IntKind.i64.wrap (f' * P) = f' * P := wrap64 _ (by omega)
    have x2 : IntKind.i64.wrap (p' * F) = p' * F := wrap64 _ (by omega)
    have x3 : IntKind.i64.wrap (f' * P + p' * F) = f' * P + p' * F := wrap64 _ (by omega)
    subst EA2 EB2
    clear m1 m2 m3 m4
    go_enter Try.func85, Try.ntmps85
    go_wp2_with fail
    go_region_held3 (fun w' => w'.cell? ⟨w.heap.size, 1, none⟩ = some (.int .i64 f) ∧ w'.cell? ⟨w.heap.size, 2, none⟩ = some (.int .i64 p)) (go_keep)
      (first | (go_at_call_of 83 (Value.int .i64 f); refine (hF _).mono ?_; rintro e w' ⟨rfl, rfl⟩) | (go_at_call_of 83 (Value.int .i64 p); refine (hP _).mono ?_; rintro e w' ⟨rfl, rfl⟩))
    go_wp2_with fail
    exact bodyPost_ret (v := .agg #[.int .i64 _, .int .i64 _]) (by simp [results, Try.results85, go_sem]) rfl ⟨rfl, (((Gr.refl w).alloc _).alloc _).drew⟩

/-! ## the two measures compared -/
def nearC (x y : Int × Int × Int) : Int := ratC (wth x.2.1 * wth x.2.1) (wth x.2.1 + wth x.2.2) (wth y.2.1 * wth y.2.1) (wth y.2.1 + wth y.2.2)
def rateC (F P : Int) (x y : Int × Int × Int) : Int := ratC (rtA F P x.2.1) (rtB F P x.2.1 x.2.2) (rtA F P y.2.1) (rtB F P y.2.1 y.2.2)
theorem rtA_le (F P f : Int) (hP : 0 ≤ P ∧ P ≤ 64) : 0 ≤ rtA F P f ∧ rtA F P f ≤ 10000 := by
  have h := wth_le f
  have m1 : wth f * P ≤ 64 * 64 := Int.mul_le_mul (by omega) (by omega) (by omega) (by omega)
  have m3 : 0 ≤ wth f * P := Int.mul_nonneg (by omega) (by omega)
  unfold rtA
  constructor <;> (repeat' split) <;> omega
theorem rtB_le (F P f p : Int) (hF : 0 ≤ F ∧ F ≤ 64) (hP : 0 ≤ P ∧ P ≤ 64) : 0 ≤ rtB F P f p ∧ rtB F P f p ≤ 10000 := by
  have h := wth_le f
  have h' := wth_le p
  have m1 : wth f * P ≤ 64 * 64 := Int.mul_le_mul (by omega) (by omega) (by omega) (by omega)
  have m3 : 0 ≤ wth f * P := Int.mul_nonneg (by omega) (by omega)
  have m2 : wth p * F ≤ 64 * 64 := Int.mul_le_mul (by omega) (by omega) (by omega) (by omega)
  have m4 : 0 ≤ wth p * F := Int.mul_nonneg (by omega) (by omega)
  unfold rtB
  constructor <;> (repeat' split) <;> omega
theorem sq_le (f : Int) : 0 ≤ wth f * wth f ∧ wth f * wth f ≤ 10000 := by
  have h := wth_le f
  have m1 : wth f * wth f ≤ 64 * 64 := Int.mul_le_mul (by omega) (by omega) (by omega) (by omega)
  exact ⟨Int.mul_nonneg (by omega) (by omega), by omega⟩
theorem su_le (f p : Int) : 0 ≤ wth f + wth p ∧ wth f + wth p ≤ 10000 := by
  have h := wth_le f
  have h' := wth_le p
  omega
theorem eg57 : ∀ args w, (callFunc 57 args).run Try.prog w = .ok (.enter 57 args) w := enters_of Try.func57 (by kernel_rfl) rfl
theorem eg85 : ∀ args w, (callFunc 85 args).run Try.prog w = .ok (.enter 85 args) w := enters_of Try.func85 (by kernel_rfl) rfl
def encS (x : Int × Int × Int) : List Value := [.int .u32 x.1, .int .i64 x.2.1, .int .i64 x.2.2]
/-- the measure 'near' compares so in each world -/
theorem cmpNear (x y : Int × Int × Int) (w : World) :
    Calls Try.prog 58 #[.func (.func 57) #[] #[], .agg (encS x).toArray, .agg (encS y).toArray] w fun e w' => e = .returned (.int .i64 (nearC x y)) ∧ Gr w w' :=
  measure_c 57 #[] (fun f _ => wth f * wth f) (fun f p => wth f + wth p) (fun _ => True) (fun _ _ _ _ => trivial) eg57 (fun v f p W _ => near_c v f p W) (fun f _ => sq_le f) su_le x.1 x.2.1 x.2.2 y.1 y.2.1 y.2.2 w trivial
theorem cmpRate (a b : Addr) (F P : Int) (hF : 0 ≤ F ∧ F ≤ 64) (hP : 0 ≤ P ∧ P ≤ 64) (x y : Int × Int × Int) (w : World) (hw : Caps a b F P w) :
    Calls Try.prog 58 #[.func (.func 85) #[] #[.pointer (some a), .pointer (some b)], .agg (encS x).toArray, .agg (encS y).toArray] w fun e w' => e = .returned (.int .i64 (rateC F P x y)) ∧ Gr w w' :=
  measure_c 85 #[.pointer (some a), .pointer (some b)] (fun f _ => rtA F P f) (fun f p => rtB F P f p) (Caps a b F P) Caps.grown eg85 (fun v f p W h => rate1_c a b F P hF hP v f p W h) (fun f _ => rtA_le F P f hP) (fun f p => rtB_le F P f p hF hP) x.1 x.2.1 x.2.2 y.1 y.2.1 y.2.2 w hw
/-- rate makes a measure -/
theorem rate_c (f p : Int) (w : World) :
    Calls Try.prog 59 #[.int .i64 f, .int .i64 p] w fun e w' => ∃ a b, e = .returned (.func (.func 85) #[] #[.pointer (some a), .pointer (some b)]) ∧ Caps a b (wth f) (wth p) w' ∧ Gr w w' := by
  have hF := fun W => within_c f W
  have hP := fun W => within_c p W
  generalize wth f = f' at hF ⊢
  generalize wth p = p' at hP ⊢
  go_enter Try.func59, Try.ntmps59
  go_wp2_with fail
  go_region_with (first | (go_at_call_of 83 (Value.int .i64 f); refine (hF _).mono ?_; rintro e w' ⟨rfl, rfl⟩) | (go_at_call_of 83 (Value.int .i64 p); refine (hP _).mono ?_; rintro e w' ⟨rfl, rfl⟩))
  all_goals go_wp2_with fail
  all_goals go_ret
  all_goals exact ⟨⟨w.heap.size, 0, none⟩, ⟨w.heap.size + 1, 0, none⟩, rfl, ⟨by simp; omega, by simp, by go_simp, by go_simp⟩, (((Gr.refl w).alloc _).alloc _).drew⟩
end Go.Proofs.Ythpnooookkpkaaa.F
namespace Go.Proofs.Ythpnooookkpkaaa.F
open Go.RowKit Go.Sort Go.Proofs.YthpnooookkpkaaaW.PrintWords Go.Proofs.YthpnooookkpkaaaW.PrintLast Go.Proofs.YthpnooookkpkaaaW.PrintMore
attribute [local go_sem] max2_int min2_int max_two min_two max_three min_three max_four min_four

theorem Near_c (x y : Int × Int × Int) (w : World) :
    Calls Try.prog 32 #[.agg (encS x).toArray, .agg (encS y).toArray] w fun e w' => e = .returned (.int .i64 (nearC x y)) ∧ Gr w w' := by
  have hc := fun W => cmpNear x y W
  generalize nearC x y = r at hc ⊢
  obtain ⟨a, b, c⟩ := x
  obtain ⟨a', b', c'⟩ := y
  simp only [encS] at hc ⊢
  go_enter Try.func32, Try.ntmps32
  go_wp2_with fail
  refine (hc _).mono ?_
  rintro e w' ⟨rfl, hg⟩
  go_wp2_with fail
  go_ret
  exact ⟨rfl, (((Gr.refl w).alloc _).alloc _).trans hg⟩
theorem Rate_c (x y : Int × Int × Int) (f p : Int) (w : World) :
    Calls Try.prog 33 #[.agg (encS x).toArray, .agg (encS y).toArray, .int .i64 f, .int .i64 p] w fun e w' => e = .returned (.int .i64 (rateC (wth f) (wth p) x y)) ∧ Gr w w' := by
  have hc := fun a b W => cmpRate a b (wth f) (wth p) (wth_le f) (wth_le p) x y W
  have hr := fun W => rate_c f p W
  generalize wth f = f' at hc hr ⊢
  generalize wth p = p' at hc hr ⊢
  generalize rateC f' p' x y = r at hc ⊢
  obtain ⟨a, b, c⟩ := x
  obtain ⟨a', b', c'⟩ := y
  simp only [encS] at hc ⊢
  go_enter Try.func33, Try.ntmps33
  go_wp2_with fail
  obtain ⟨w2, hw2⟩ : ∃ w2 : World, w2 = (w.alloc (Obj.cells #[.int .u32 a, .int .i64 b, .int .i64 c] 46)).alloc (Obj.cells #[.int .u32 a', .int .i64 b', .int .i64 c'] 46) := ⟨_, rfl⟩
  rw [← hw2]
  have HG := Aside0.mk (show Gr w w2 by rw [hw2]; exact ((Gr.refl w).alloc _).alloc _)
  have h2 : Two w2 w.heap.size a b c a' b' c' w2 := by
    refine ⟨Gr.refl _, ?_, ?_, ?_, ?_, ?_, ?_, ?_⟩ <;> rw [hw2] <;> go_simp
  obtain ⟨s0, s1, s2, s3, s4, s5, s6, s7⟩ := h2
  clear hw2
  generalize w.heap.size = n at s0 s1 s2 s3 s4 s5 s6 s7 ⊢
  go_region_held3 (fun W => Gr w2 W ∧ n + 2 ≤ W.heap.size ∧ W.cell? ⟨n, 0, none⟩ = some (.int .u32 a) ∧ W.cell? ⟨n, 1, none⟩ = some (.int .i64 b) ∧ W.cell? ⟨n, 2, none⟩ = some (.int .i64 c) ∧
    W.cell? ⟨n + 1, 0, none⟩ = some (.int .u32 a') ∧ W.cell? ⟨n + 1, 1, none⟩ = some (.int .i64 b') ∧ W.cell? ⟨n + 1, 2, none⟩ = some (.int .i64 c')) (first | ((repeat' apply And.intro) <;> (first | assumption | exact (Gr.refl _).drew | (simp [*]; done) | (simp; omega))))
    (first
      | (go_at_call 59; refine (hr _).mono ?_; rintro e w' ⟨ca, cb, rfl, hcap, hg⟩; obtain ⟨_, _, _, _, _, _, _, _⟩ := Two.grown (show Two w2 n a b c a' b' c' _ from ⟨by (first | assumption | exact (Gr.refl _).drew | (simp [*]; done) | (simp; omega)), by (first | assumption | exact (Gr.refl _).drew | (simp [*]; done) | (simp; omega)), by (first | assumption | exact (Gr.refl _).drew | (simp [*]; done) | (simp; omega)), by (first | assumption | exact (Gr.refl _).drew | (simp [*]; done) | (simp; omega)), by (first | assumption | exact (Gr.refl _).drew | (simp [*]; done) | (simp; omega)), by (first | assumption | exact (Gr.refl _).drew | (simp [*]; done) | (simp; omega)), by (first | assumption | exact (Gr.refl _).drew | (simp [*]; done) | (simp; omega)), by (first | assumption | exact (Gr.refl _).drew | (simp [*]; done) | (simp; omega))⟩) hg; clear hg)
      | (go_at_call 58; refine (hc _ _ _ hcap).mono ?_; rintro e w' ⟨rfl, hg⟩; obtain ⟨_, _, _, _, _, _, _, _⟩ := Two.grown (show Two w2 n a b c a' b' c' _ from ⟨by (first | assumption | exact (Gr.refl _).drew | (simp [*]; done) | (simp; omega)), by (first | assumption | exact (Gr.refl _).drew | (simp [*]; done) | (simp; omega)), by (first | assumption | exact (Gr.refl _).drew | (simp [*]; done) | (simp; omega)), by (first | assumption | exact (Gr.refl _).drew | (simp [*]; done) | (simp; omega)), by (first | assumption | exact (Gr.refl _).drew | (simp [*]; done) | (simp; omega)), by (first | assumption | exact (Gr.refl _).drew | (simp [*]; done) | (simp; omega)), by (first | assumption | exact (Gr.refl _).drew | (simp [*]; done) | (simp; omega)), by (first | assumption | exact (Gr.refl _).drew | (simp [*]; done) | (simp; omega))⟩) hg; clear hg))
  go_wp2_with fail
  go_ret
  exact ⟨rfl, HG.out.trans (by assumption)⟩
theorem compare32_c (x y : Int) (w : World) : Calls Try.prog 89 #[.int .u32 x, .int .u32 y] w fun e w' => e = .returned (.int .i64 (cmpI x y)) ∧ Gr w w' := by
  have hn : ∀ a W, Calls Try.prog 103 #[.int .u32 a] W fun e w' => e = .returned (.bool false) ∧ w' = W := by
    intro a W
    go_enter Try.func103, Try.ntmps103
    go_wp2_with fail
    go_ret
    simp
  have HE := Aside0.mk (show cmpI x y = if x < y then -1 else if x > y then 1 else 0 from rfl)
  generalize cmpI x y = r at HE ⊢
  by_cases h1 : x < y
  · have HE2 := HE.out
    rw [if_pos h1] at HE2
    clear HE
    subst HE2
    go_enter Try.func89, Try.ntmps89
    go_wp2_with fail
    refine (hn _ _).mono ?_
    rintro e w' ⟨rfl, rfl⟩
    go_wp2_with fail
    refine (hn _ _).mono ?_
    rintro e w' ⟨rfl, rfl⟩
    go_wp2_with fail
    go_ret
    exact ⟨by simp, Gr.refl _⟩
  · by_cases h2 : y < x
    · have HE2 := HE.out
      rw [if_neg h1, if_pos h2] at HE2
      clear HE
      subst HE2
      go_enter Try.func89, Try.ntmps89
      go_wp2_with fail
      refine (hn _ _).mono ?_
      rintro e w' ⟨rfl, rfl⟩
      go_wp2_with fail
      refine (hn _ _).mono ?_
      rintro e w' ⟨rfl, rfl⟩
      go_wp2_with fail
      go_ret
      exact ⟨by simp, Gr.refl _⟩
    · have HE2 := HE.out
      rw [if_neg h1, if_neg (by exact h2)] at HE2
      clear HE
      subst HE2
      go_enter Try.func89, Try.ntmps89
      go_wp2_with fail
      refine (hn _ _).mono ?_
      rintro e w' ⟨rfl, rfl⟩
      go_wp2_with fail
      refine (hn _ _).mono ?_
      rintro e w' ⟨rfl, rfl⟩
      go_wp2_with fail
      go_ret
      exact ⟨by simp, Gr.refl _⟩
end Go.Proofs.Ythpnooookkpkaaa.F
/-
  DERIVED: THE SHELF's CONTRACTS AT THIS DUMP, IN PLAIN WORDS (tools/lay-plain.mjs out of 'YthpnooookkpkaaaShelf.lean', which tools/lay-shelf.mjs wrote): THE SAME DECLARATIONS UNDER THE SAME NAMES: 'import', 'namespace', 'open', 'def', 'theorem' AND NOTHING ELSE: no command of the shelf's: FOR A HAND-IN. Each laying: the table of numbers ('.._ren') and one theorem, a field a fact of the dump's own or the kernel's comparison; each contract: ONE APPLICATION.
-/
namespace Go.Proofs
open Go.Shelf
def Try.sortS_ren : Go.Shelf.Ren := ⟨fun | 6 => 86 | 15 => 93 | 14 => 102 | 28 => 112 | 29 => 113 | 20 => 114 | 21 => 115 | 22 => 116 | 23 => 117 | 24 => 118 | 25 => 119 | 26 => 120 | 27 => 121 | 46 => 127 | 47 => 123 | 48 => 124 | 49 => 128 | 50 => 129 | 57 => 131 | n => n, fun | 22 => 50 | 24 => 46 | 25 => 47 | 3 => 3 | 39 => 32 | 0 => 0 | 53 => 44 | 55 => 22 | 4 => 4 | 46 => 124 | 45 => 123 | 50 => 109 | 5 => 5 | 9 => 9 | 66 => 136 | 70 => 140 | 76 => 144 | 77 => 145 | n => n, fun | n => n⟩
theorem Try.sortS : Go.Proofs.SlLaysF0.n6 Try.prog Try.sortS_ren := {
  mixed := by kernel_rfl
  f6 := ⟨Try.f86.name, by decide, Try.func86.trans (congrArg some (by kernel_rfl))⟩
  f14 := ⟨Try.f102.name, by decide, Try.func102.trans (congrArg some (by kernel_rfl))⟩
  f15 := Try.func93.trans (congrArg some (by kernel_rfl))
  f20 := ⟨Try.f114.name, by decide, Try.func114.trans (congrArg some (by kernel_rfl))⟩
  f21 := ⟨Try.f115.name, by decide, Try.func115.trans (congrArg some (by kernel_rfl))⟩
  f22 := ⟨Try.f116.name, by decide, Try.func116.trans (congrArg some (by kernel_rfl))⟩
  f23 := ⟨Try.f117.name, by decide, Try.func117.trans (congrArg some (by kernel_rfl))⟩
  f24 := ⟨Try.f118.name, by decide, Try.func118.trans (congrArg some (by kernel_rfl))⟩
  f25 := ⟨Try.f119.name, by decide, Try.func119.trans (congrArg some (by kernel_rfl))⟩
  f26 := ⟨Try.f120.name, by decide, Try.func120.trans (congrArg some (by kernel_rfl))⟩
  f27 := ⟨Try.f121.name, by decide, Try.func121.trans (congrArg some (by kernel_rfl))⟩
  f28 := Try.func112.trans (congrArg some (by kernel_rfl))
  f29 := Try.func113.trans (congrArg some (by kernel_rfl))
  f46 := ⟨Try.f127.name, by decide, Try.func127.trans (congrArg some (by kernel_rfl))⟩
  f47 := Try.func123.trans (congrArg some (by kernel_rfl))
  f48 := Try.func124.trans (congrArg some (by kernel_rfl))
  f49 := ⟨Try.f128.name, by decide, Try.func128.trans (congrArg some (by kernel_rfl))⟩
  f50 := ⟨Try.f129.name, by decide, Try.func129.trans (congrArg some (by kernel_rfl))⟩
  f57 := ⟨Try.f131.name, by decide, Try.func131.trans (congrArg some (by kernel_rfl))⟩
  t0 := Try.underlying0
  a0 := Try.isAgg0
  z0 := Try.sizeOf0
  v0 := Try.zeroValue0
  t3 := Try.underlying3
  a3 := Try.isAgg3
  z3 := Try.sizeOf3
  v3 := Try.zeroValue3
  t4 := Try.underlying4
  a4 := Try.isAgg4
  z4 := Try.sizeOf4
  v4 := Try.zeroValue4
  t5 := Try.underlying5
  a5 := Try.isAgg5
  z5 := Try.sizeOf5
  v5 := Try.zeroValue5
  t9 := Try.underlying9
  a9 := Try.isAgg9
  z9 := Try.sizeOf9
  v9 := Try.zeroValue9
  t22 := Try.underlying50
  a22 := Try.isAgg50
  z22 := Try.sizeOf50
  v22 := Try.zeroValue50
  t25 := Try.underlying47
  a25 := Try.isAgg47
  z25 := Try.sizeOf47
  v25 := Try.zeroValue47
  t39 := Try.underlying32
  a39 := Try.isAgg32
  z39 := Try.sizeOf32
  v39 := Try.zeroValue32
  t45 := Try.underlying123
  a45 := Try.isAgg123
  z45 := Try.sizeOf123
  v45 := Try.zeroValue123
  t46 := Try.underlying124
  a46 := Try.isAgg124
  z46 := Try.sizeOf124
  v46 := Try.zeroValue124
  t50 := Try.underlying109
  a50 := Try.isAgg109
  z50 := Try.sizeOf109
  v50 := Try.zeroValue109
  t53 := Try.underlying44
  a53 := Try.isAgg44
  z53 := Try.sizeOf44
  v53 := Try.zeroValue44
  t55 := Try.underlying22
  a55 := Try.isAgg22
  z55 := Try.sizeOf22
  v55 := Try.zeroValue22
  t66 := Try.underlying136
  a66 := Try.isAgg136
  z66 := Try.sizeOf136
  v66 := Try.zeroValue136
  t70 := Try.underlying140
  a70 := Try.isAgg140
  z70 := Try.sizeOf140
  v70 := Try.zeroValue140
  t76 := Try.underlying144
  a76 := Try.isAgg144
  z76 := Try.sizeOf144
  v76 := Try.zeroValue144
  t77 := Try.underlying145
  a77 := Try.isAgg145
  z77 := Try.sizeOf145
  v77 := Try.zeroValue145 }
end Go.Proofs
namespace Go.Proofs.Ythpnooookkpkaaa.F
open Go.Shelf Go.RowKit Go.Lib Go.Sort Go.Proofs.YthpnooookkpkaaaW.PrintWords Go.Proofs.YthpnooookkpkaaaW.PrintLast Go.Proofs.YthpnooookkpkaaaW.PrintMore
attribute [local go_sem] max2_int min2_int max_two min_two max_three min_three max_four min_four

def orI (x y : Int) : Int := if x = 0 then y else x
theorem or_c (b : Nat) (x y : Int) (w : World) (h0 : w.cell? ⟨b, 0, none⟩ = some (.int .i64 x)) (h1 : w.cell? ⟨b, 1, none⟩ = some (.int .i64 y)) :
    Calls Try.prog 88 #[.slice (some ⟨b, 0, none⟩) 2 2] w fun e w' => e = .returned (.int .i64 (orI x y)) ∧ w' = w := by
  have HE := Aside0.mk (show orI x y = if x = 0 then y else x from rfl)
  generalize orI x y = r at HE ⊢
  by_cases hx : x = 0
  · have HE2 := HE.out
    rw [if_pos hx] at HE2
    clear HE
    subst HE2 hx
    by_cases hy : r = 0
    · subst hy
      go_enter Try.func88, Try.ntmps88
      go_wp2_with fail
      refine wp_loop_rounds 3 ?_
      rw [rounds_succ]
      go_wp2_with fail
      rw [rounds_succ]
      go_wp2_with fail
      rw [rounds_succ]
      go_wp2_with fail
      go_ret
      exact ⟨rfl, rfl⟩
    · have e1 : (r == 0) = false := by simp [hy]
      have e2 : (r != 0) = true := by simp [hy]
      clear hy
      go_enter Try.func88, Try.ntmps88
      go_wp2_with fail
      refine wp_loop_rounds 3 ?_
      rw [rounds_succ]
      go_wp2_with fail
      rw [rounds_succ]
      go_wp2_with fail
      go_ret
      exact ⟨rfl, rfl⟩
  · have HE2 := HE.out
    rw [if_neg hx] at HE2
    clear HE
    subst HE2
    have e1 : (r == 0) = false := by simp [hx]
    have e2 : (r != 0) = true := by simp [hx]
    clear hx
    go_enter Try.func88, Try.ntmps88
    go_wp2_with fail
    refine wp_loop_rounds 3 ?_
    rw [rounds_succ]
    go_wp2_with fail
    go_ret
    exact ⟨rfl, rfl⟩
/-- by a measure, the greater one first; then by the variable -/
def cfM (mC : Int × Int × Int → Int × Int × Int → Int) (x y : Int × Int × Int) : Int := orI (mC y x) (cmpI x.1 y.1)
set_option maxHeartbeats 1000000 in
theorem sort1_c (g : Nat) (cb : Array Value) (mC : Int × Int × Int → Int × Int × Int → Int) (OK : World → Prop) (hOK : ∀ W W', OK W → Gr W W' → OK W')
    (hC : ∀ x y W, OK W → Calls Try.prog 58 #[.func (.func g) #[] cb, .agg (encS x).toArray, .agg (encS y).toArray] W fun e w' => e = .returned (.int .i64 (mC x y)) ∧ Gr W w')
    (am : Addr) (x y : Int × Int × Int) (w : World) (hw : OK w) (ham : am.block < w.heap.size) (hcm : w.cell? am = some (.func (.func g) #[] cb)) :
    Calls Try.prog 87 #[.agg (encS x).toArray, .agg (encS y).toArray, .pointer (some am)] w fun e w' => e = .returned (.int .i64 (cfM mC x y)) ∧ Gr w w' := by
  have h1 := fun W => hC y x W
  clear hC
  have HE := Aside0.mk (show cfM mC x y = orI (mC y x) (cmpI x.1 y.1) from rfl)
  generalize cfM mC x y = r at HE ⊢
  generalize mC y x = m at h1 HE
  obtain ⟨a, b, c⟩ := x
  obtain ⟨a', b', c'⟩ := y
  simp only [encS] at h1 ⊢
  have H1 := Aside0.mk h1
  have HOK := Aside0.mk hOK
  have HW := Aside0.mk hw
  clear h1 hOK hw
  have hne1 : am.block ≠ w.heap.size := by omega
  have hne2 : am.block ≠ w.heap.size + 1 := by omega
  have hk := fun W => compare32_c a a' W
  generalize cmpI a a' = k at hk HE
  go_enter Try.func87, Try.ntmps87
  go_wp2_with fail
  obtain ⟨w2, hw2⟩ : ∃ w2 : World, w2 = (w.alloc (Obj.cells #[.int .u32 a, .int .i64 b, .int .i64 c] 46)).alloc (Obj.cells #[.int .u32 a', .int .i64 b', .int .i64 c'] 46) := ⟨_, rfl⟩
  rw [← hw2]
  have HG := Aside0.mk (show Gr w w2 by rw [hw2]; exact ((Gr.refl w).alloc _).alloc _)
  have h2 : Two w2 w.heap.size a b c a' b' c' w2 := by
    refine ⟨Gr.refl _, ?_, ?_, ?_, ?_, ?_, ?_, ?_⟩ <;> rw [hw2] <;> go_simp
  have HO2 := Aside0.mk (HOK.out _ _ HW.out HG.out)
  obtain ⟨s0, s1, s2, s3, s4, s5, s6, s7⟩ := h2
  have hcm2 : w2.cell? am = some (.func (.func g) #[] cb) := HG.out.cell hcm ham
  have hlt : am.block < w.heap.size + 2 := by omega
  clear hw2 hcm ham hne1 hne2
  generalize w.heap.size = n at s0 s1 s2 s3 s4 s5 s6 s7 hlt ⊢
  go_region_held3 (fun W => W.cell? am = some (.func (.func g) #[] cb) ∧ Gr w2 W ∧ n + 2 ≤ W.heap.size ∧ W.cell? ⟨n, 0, none⟩ = some (.int .u32 a) ∧ W.cell? ⟨n, 1, none⟩ = some (.int .i64 b) ∧ W.cell? ⟨n, 2, none⟩ = some (.int .i64 c) ∧
    W.cell? ⟨n + 1, 0, none⟩ = some (.int .u32 a') ∧ W.cell? ⟨n + 1, 1, none⟩ = some (.int .i64 b') ∧ W.cell? ⟨n + 1, 2, none⟩ = some (.int .i64 c')) (first | ((repeat' apply And.intro) <;> (first | assumption | exact (Gr.refl _).drew | (simp [*]; done) | (simp; omega))) | ((repeat' apply And.intro) <;> first | assumption | (exact Gr.alloc (by assumption) _) | (simp; omega) | (simp [*, World.cell?_alloc_some]; done)))
    (first
      | (go_at_call 58; refine (H1.out _ (HOK.out _ _ HO2.out (by (first | assumption | exact (Gr.refl _).drew | (simp [*]; done) | (simp; omega))))).mono ?_; rintro e w' ⟨rfl, hg⟩; have hfm_ := Gr.cell hg (show World.cell? _ am = some (.func (.func g) #[] cb) from by (first | assumption | exact (Gr.refl _).drew | (simp [*]; done) | (simp; omega))) (Nat.lt_of_lt_of_le hlt (by (first | assumption | exact (Gr.refl _).drew | (simp [*]; done) | (simp; omega)))); obtain ⟨_, _, _, _, _, _, _, _⟩ := Two.grown (show Two w2 n a b c a' b' c' _ from ⟨by (first | assumption | exact (Gr.refl _).drew | (simp [*]; done) | (simp; omega)), by (first | assumption | exact (Gr.refl _).drew | (simp [*]; done) | (simp; omega)), by (first | assumption | exact (Gr.refl _).drew | (simp [*]; done) | (simp; omega)), by (first | assumption | exact (Gr.refl _).drew | (simp [*]; done) | (simp; omega)), by (first | assumption | exact (Gr.refl _).drew | (simp [*]; done) | (simp; omega)), by (first | assumption | exact (Gr.refl _).drew | (simp [*]; done) | (simp; omega)), by (first | assumption | exact (Gr.refl _).drew | (simp [*]; done) | (simp; omega)), by (first | assumption | exact (Gr.refl _).drew | (simp [*]; done) | (simp; omega))⟩) hg; clear hg)
      | (go_at_call 89; refine (hk _).mono ?_; rintro e w' ⟨rfl, hg⟩; have hfm_ := Gr.cell hg (show World.cell? _ am = some (.func (.func g) #[] cb) from by (first | assumption | exact (Gr.refl _).drew | (simp [*]; done) | (simp; omega))) (Nat.lt_of_lt_of_le hlt (by (first | assumption | exact (Gr.refl _).drew | (simp [*]; done) | (simp; omega)))); obtain ⟨_, _, _, _, _, _, _, _⟩ := Two.grown (show Two w2 n a b c a' b' c' _ from ⟨by (first | assumption | exact (Gr.refl _).drew | (simp [*]; done) | (simp; omega)), by (first | assumption | exact (Gr.refl _).drew | (simp [*]; done) | (simp; omega)), by (first | assumption | exact (Gr.refl _).drew | (simp [*]; done) | (simp; omega)), by (first | assumption | exact (Gr.refl _).drew | (simp [*]; done) | (simp; omega)), by (first | assumption | exact (Gr.refl _).drew | (simp [*]; done) | (simp; omega)), by (first | assumption | exact (Gr.refl _).drew | (simp [*]; done) | (simp; omega)), by (first | assumption | exact (Gr.refl _).drew | (simp [*]; done) | (simp; omega)), by (first | assumption | exact (Gr.refl _).drew | (simp [*]; done) | (simp; omega))⟩) hg; clear hg)
      | (go_at_call 88; refine (or_c _ m k _ ?_ ?_).mono ?_; go_simp; go_simp; rintro e w' ⟨rfl, rfl⟩))
  go_wp2_with fail
  go_ret
  have hE := HE.out
  subst hE
  refine ⟨rfl, HG.out.trans (Gr.alloc ?_ _)⟩
  assumption

end Go.Proofs.Ythpnooookkpkaaa.F
namespace Go.Proofs.Ythpnooookkpkaaa.F
open Go.Shelf Go.RowKit Go.Lib Go.Sort Go.Proofs.YthpnooookkpkaaaW.PrintWords Go.Proofs.YthpnooookkpkaaaW.PrintLast Go.Proofs.YthpnooookkpkaaaW.PrintMore
attribute [local go_sem] max2_int min2_int max_two min_two max_three min_three max_four min_four

/-- a suspect as the sort takes it -/
def toT (x : S46) : Int × Int × Int := (x.f0, x.f1, x.f2)
def toS (x : Int × Int × Int) : S46 := ⟨x.1, x.2.1, x.2.2⟩
def arrT (l : List S46) : Array (Int × Int × Int) := (l.map toT).toArray
set_option maxRecDepth 100000 in
set_option maxHeartbeats 1000000 in
theorem clone_c (A : Option Addr) (l : List S46) (c : Nat) (w : World) (hr : Kd.C k46 w A l.length l) (hl : l.length ≤ 1000000000) :
    Calls Try.prog 62 #[.slice A l.length c] w fun e w' => ∃ v : Value, e = .returned v ∧ Kd.R k46 46 w' w.heap.size (fun _ => True) v l ∧ Below w.heap.size w w' := by
  have q50 : ∀ (w : World) (a : Option Addr) (n c n' c' : Nat), (binOp .eql 50 (.slice a n c) (.slice none n' c')).run Try.prog w = .ok (.bool a.isNone) w := fun w a n c n' c' => Lib.run_eql_slice_nil w _ _ a n c n' c' Try.underlying50
  rcases A with _ | a
  · have h0 : l = [] := by
      cases l with
      | nil => rfl
      | cons x l => obtain ⟨_, _, h⟩ := hr; obtain ⟨ad, h, _⟩ := h (by simp); cases h
    subst h0
    go_enter Try.func62, Try.ntmps62
    go_wp2_with fail
    go_ret
    exact ⟨_, rfl, Kd.R_nil _ _ _ _ _, Below.refl _ _⟩
  · have HR := Aside0.mk hr
    clear hr
    go_enter Try.func62, Try.ntmps62
    have hB := Aside0.mk ((Below.refl w.heap.size w).alloc (Nat.le_refl _) (Obj.cells #[] 46))
    go_wp2_with (at_builtin; go_loud (refine Kd.R_append_rows k46 (Rr := k46.K w) (w0 := w) w.heap.size rfl (.tmp 5) (.tmp 6) 50 46 (.agg #[(.int .u32 0), (.int .i64 0), (.int .i64 0)]) 24 rfl Try.underlying50 info46 rfl (by decide) (by omega) (.slice (some ⟨w.heap.size, 0, none⟩) 0 0) ([] : List S46) l _ _ _ (fun _ => True) (fun _ => False) rfl rfl ?aO ?aR ?aK (fun _ h => h.elim) (fun _ _ => trivial) hB.out hB.out.size ?aL ?_); (case aO => exact ⟨fun _ _ => trivial, [], World.ownsRow_made w #[] 0 (Nat.le_refl _) (Nat.zero_le _) (by simp), Reps.none _ _⟩); (case aR => exact ReadsRow.imp_ HR.out hB.out (fun _ _ h => h)); (case aK => intro x cs hx; rw [k46_open hx]; exact k46_mkM _ _ _ x); (case aL => simp; omega); intro v1 w1 ho hb hg hat; have HO := Aside0.mk ho; have HB := Aside0.mk hb; clear ho hb hg hat)
    go_ret
    exact ⟨_, rfl, by simpa using HO.out, HB.out⟩
/-- an own row of suspects, as the sort wants it -/
theorem holds_of_R {w : World} {base : Nat} {ok : Nat → Prop} {v : Value} {l : List S46} (h : Kd.R k46 46 w base ok v l) :
    (v = .slice none 0 0 ∧ l = []) ∨ ∃ g cap, v = .slice (some ⟨g, 0, none⟩) l.length cap ∧ base ≤ g ∧ g < w.heap.size ∧ l.length ≤ cap ∧ cap ≤ maxLen ∧ HoldsK encS 3 w g 0 (arrT l) := by
  obtain ⟨_, inner, ⟨hlen, ho⟩, hr⟩ := h
  have hk : k46.sz = 3 := rfl
  rw [hk] at hlen ho hr
  rcases ho with ⟨rfl, h0⟩ | ⟨g, cap, cur, rfl, hg, hh, hn, hm, hs, ht⟩
  · exact .inl ⟨rfl, List.length_eq_zero_iff.mp h0⟩
  · refine .inr ⟨g, cap, rfl, hg, ?_, hn, hm, ?_⟩
    · exact blk_lt hh
    · intro j hj
      have hsz : (arrT l).size = l.length := by simp [arrT]
      have hjl : j < l.length * 3 := by rw [size_flatK, hsz] at hj; exact hj
      have hq : j / 3 < l.length := by omega
      refine ⟨?_, ?_⟩
      · rw [Nat.zero_add]
        refine (blk_cell hh j).trans ?_
        have e1 : cur[j]? = inner[j]? := by
          rw [← ht, List.getElem?_take_of_lt (by omega), Array.getElem?_toList]
        rw [e1, id, get_flatK _ _ _ _ (by rw [hsz]; exact hjl)]
        have hp := hr.2 (j / 3) _ (List.getElem?_eq_getElem hq)
        have hp2 := k46_openM hp
        have e2 : inner[j]? = ((inner.drop (j / 3 * 3)).take 3)[j % 3]? := by
          rw [List.getElem?_take_of_lt (by omega), List.getElem?_drop]
          congr 1
          omega
        have hp3 : (inner.drop (j / 3 * 3)).take 3 = [.int .u32 l[j / 3].f0, .int .i64 l[j / 3].f1, .int .i64 l[j / 3].f2] := hp2
        rw [e2, hp3]
        have e3 : (arrT l)[j / 3]! = toT l[j / 3] := by
          rw [getElem!_pos _ _ (by rw [hsz]; exact hq)]
          simp [arrT]
        rw [e3]
        rcases (show j % 3 = 0 ∨ j % 3 = 1 ∨ j % 3 = 2 by omega) with h | h | h <;> rw [h] <;> rfl
      · rw [Nat.zero_add]
        exact blk_frozen hh j

/-- a row that the sort has left, read again -/
theorem C_of_holds {w : World} {g : Nat} {d : Array (Int × Int × Int)} (h : HoldsK encS 3 w g 0 d) (hs : d.size ≤ 1000000000) : Kd.C k46 w (some ⟨g, 0, none⟩) d.size (d.toList.map toS) := by
  refine ⟨by simp, by omega, fun _ => ⟨_, rfl, fun j p hp => ?_⟩⟩
  rw [List.getElem?_map] at hp
  obtain ⟨x, hx, rfl⟩ := Option.map_eq_some_iff.mp hp
  have hj : j < d.size := by
    have := (List.getElem?_eq_some_iff.mp hx).1
    simpa using this
  have hx2 : d[j]! = x := by
    rw [Array.getElem?_toList] at hx
    rw [getElem!_def, hx]
  refine ⟨[.int .u32 x.1, .int .i64 x.2.1, .int .i64 x.2.2], rfl, k46_mk w (toS x), fun i u hu => ?_⟩
  have hi : i < 3 := by
    have := (List.getElem?_eq_some_iff.mp hu).1
    simpa using this
  have h1 := (h (j * 3 + i) (by rw [size_flatK]; omega)).1
  rw [id, get_flatK _ _ _ _ (by omega), show (j * 3 + i) / 3 = j by omega, show (j * 3 + i) % 3 = i by omega, hx2] at h1
  have ha : (⟨g, 0, none⟩ : Addr).add (j * 3 + i) = ⟨g, 0 + (j * 3 + i), none⟩ := by unfold Addr.add; split <;> simp_all
  rw [show k46.sz = 3 from rfl, ha, h1]
  rcases (show i = 0 ∨ i = 1 ∨ i = 2 by omega) with rfl | rfl | rfl <;> simpa [encS] using hu
end Go.Proofs.Ythpnooookkpkaaa.F
namespace Go.Proofs.Ythpnooookkpkaaa.F
open Go.Shelf Go.RowKit Go.Lib Go.Sort Go.Proofs.YthpnooookkpkaaaW.PrintWords Go.Proofs.YthpnooookkpkaaaW.PrintLast Go.Proofs.YthpnooookkpkaaaW.PrintMore
attribute [local go_sem] max2_int min2_int max_two min_two max_three min_three max_four min_four

theorem isAgg46 (w : World) : (isAgg 46).run Try.prog w = .ok true w := by kernel_rfl
theorem sizeOf46 (w : World) : (Go.sizeOf 46).run Try.prog w = .ok 3 w := by kernel_rfl
theorem eg87 : ∀ args w, (callFunc 87 args).run Try.prog w = .ok (.enter 87 args) w := enters_of Try.func87 (by kernel_rfl) rfl
set_option maxHeartbeats 1000000 in
theorem sort_c (g : Nat) (cb : Array Value) (mC : Int × Int × Int → Int × Int × Int → Int) (hS : SWO (ltOf (cfM mC))) (OK : World → Prop) (hOK : ∀ W W', OK W → Gr W W' → OK W')
    (hC : ∀ x y W, OK W → Calls Try.prog 58 #[.func (.func g) #[] cb, .agg (encS x).toArray, .agg (encS y).toArray] W fun e w' => e = .returned (.int .i64 (mC x y)) ∧ Gr W w')
    (blk cap : Nat) (d : Array (Int × Int × Int)) (w : World) (hH : HoldsK encS 3 w blk 0 d) (hblk : blk < w.heap.size) (hsz : d.size ≤ 1000000000)
    (hOKs : ∀ m os dk, OK (sortWorldK encS 3 (w.alloc (.cells #[.func (.func g) #[] cb] 80)) blk 0 m dk os)) :
    Calls Try.prog 63 #[.func (.func g) #[] cb, .slice (some ⟨blk, 0, none⟩) d.size cap] w fun e w' => e = .returned (.tuple #[]) ∧ ∃ d' n os, PermIn 0 d.size d d' ∧ SortedIn (ltOf (cfM mC)) 0 d.size d' ∧ w' = sortWorldK encS 3 (w.alloc (.cells #[.func (.func g) #[] cb] 80)) blk 0 n d' os := by
  have hcmp : CmpLays Try.prog 87 #[.pointer (some ⟨w.heap.size, 0, none⟩)] encS 3 (cfM mC) blk 0 d.size (w.alloc (.cells #[.func (.func g) #[] cb] 80)) := by
    intro m os dk _ x y
    exact sort1_c g cb mC OK hOK hC ⟨w.heap.size, 0, none⟩ x y _ (hOKs m os dk) (Nat.lt_of_lt_of_le (by simp) (size_sortWorldK_c _ _ _ _ _ _ _ _))
      ((cell?_sortWorldK_other _ _ _ _ _ _ _ _ _ (by show w.heap.size ≠ blk; omega) (by simp)).trans (by go_simp))
  have hcon := AnyQ.slices_SortFunc Try.sortS 3 isAgg46 sizeOf46 encS (fun _ => rfl) (fun x v hv => by simp [encS] at hv; rcases hv with rfl | rfl | rfl <;> rfl) (cfM mC) hS 87 #[.pointer (some ⟨w.heap.size, 0, none⟩)] blk 0 cap d (w.alloc (.cells #[.func (.func g) #[] cb] 80)) eg87 hcmp (by rw [alloc_eq_grow]; exact holdsK_grow encS 3 w _ blk 0 d hblk hH) (by simp; omega) (by omega)
  change Calls Try.prog 86 _ _ _ at hcon
  clear hH hcmp
  have HC := Aside0.mk hcon
  clear hcon
  go_enter Try.func63, Try.ntmps63
  go_wp2_with fail
  refine HC.out.mono ?_
  rintro e w' ⟨rfl, d', n, os, hp, hs, rfl⟩
  go_wp2_with fail
  go_end0
  exact ⟨rfl, d', n, os, hp, hs, rfl⟩
theorem sort_none (g : Nat) (cb : Array Value) (cap : Nat) (w : World) : Calls Try.prog 63 #[.func (.func g) #[] cb, .slice none 0 cap] w fun e w' => e = .returned (.tuple #[]) ∧ Gr w w' := by
  have hcon : ∀ W f, Calls Try.prog 86 #[.slice none 0 cap, f] W fun e w' => e = .returned (.tuple #[]) ∧ w' = W := fun W f => AnyF.slices_SortFunc_none Try.sortS none cap f W
  have HC := Aside0.mk hcon
  clear hcon
  go_enter Try.func63, Try.ntmps63
  go_wp2_with fail
  refine (HC.out _ _).mono ?_
  rintro e w' ⟨rfl, rfl⟩
  go_wp2_with fail
  go_end0
  exact ⟨rfl, (Gr.refl w).alloc _⟩
end Go.Proofs.Ythpnooookkpkaaa.F
namespace Go.Proofs.Ythpnooookkpkaaa.F
open Go.Shelf Go.RowKit Go.Lib Go.Sort

theorem fr_le {a b c d e f : Int} (hb : 0 < b) (hd : 0 < d) (hf : 0 < f) (h1 : a * d ≤ c * b) (h2 : c * f ≤ e * d) : a * f ≤ e * b := by
  have k1 : a * d * f ≤ c * b * f := Int.mul_le_mul_of_nonneg_right h1 (by omega)
  have k2 : c * f * b ≤ e * d * b := Int.mul_le_mul_of_nonneg_right h2 (by omega)
  have e1 : a * d * f = a * f * d := by rw [Int.mul_assoc, Int.mul_comm d f, ← Int.mul_assoc]
  have e2 : c * b * f = c * f * b := by rw [Int.mul_assoc, Int.mul_comm b f, ← Int.mul_assoc]
  have e3 : e * d * b = e * b * d := by rw [Int.mul_assoc, Int.mul_comm d b, ← Int.mul_assoc]
  exact Int.le_of_mul_le_mul_right (by omega : a * f * d ≤ e * b * d) hd
/-- quotients compared -/
def frC (A B : Int × Int × Int → Int) (x y : Int × Int × Int) : Int := cmpI (A x * B y) (A y * B x)
theorem cmpI_lt (x y : Int) : cmpI x y < 0 ↔ x < y := by unfold cmpI; (repeat' split) <;> omega
theorem cmpI_eq (x y : Int) : cmpI x y = 0 ↔ x = y := by unfold cmpI; (repeat' split) <;> omega
theorem cmpI_neg (x y : Int) : cmpI y x = -cmpI x y := by unfold cmpI; (repeat' split) <;> omega
theorem cmpI_le (x y : Int) : -1 ≤ cmpI x y ∧ cmpI x y ≤ 1 := by unfold cmpI; (repeat' split) <;> omega
theorem cmpI_val (x y : Int) : (cmpI x y = -1 ∧ x < y) ∨ (cmpI x y = 0 ∧ x = y) ∨ (cmpI x y = 1 ∧ y < x) := by unfold cmpI; (repeat' split) <;> omega
section
variable (A B : Int × Int × Int → Int)
theorem lt_frC (x y : Int × Int × Int) : ltOf (cfM (frC A B)) x y = true ↔ (A y * B x < A x * B y ∨ (A y * B x = A x * B y ∧ x.1 < y.1)) := by
  unfold ltOf cfM orI frC
  rw [decide_eq_true_iff]
  have h1 := cmpI_val (A y * B x) (A x * B y)
  have h2 := cmpI_val x.1 y.1
  split <;> omega
theorem swo_frC (hB : ∀ x, 0 < B x) : SWO (ltOf (cfM (frC A B))) where
  irrefl x := by
    rw [Bool.eq_false_iff, ne_eq, lt_frC]; omega
  trans x y z h1 h2 := by
    rw [lt_frC] at *
    have t1 := @fr_le (A z) (B z) (A y) (B y) (A x) (B x) (hB z) (hB y) (hB x)
    have t2 := @fr_le (A y) (B y) (A x) (B x) (A z) (B z) (hB y) (hB x) (hB z)
    have t3 := @fr_le (A x) (B x) (A z) (B z) (A y) (B y) (hB x) (hB z) (hB y)
    omega
  ntrans x y z h1 h2 := by
    rw [Bool.eq_false_iff, ne_eq, lt_frC] at *
    have t1 := @fr_le (A x) (B x) (A y) (B y) (A z) (B z) (hB x) (hB y) (hB z)
    have t2 := @fr_le (A y) (B y) (A z) (B z) (A x) (B x) (hB y) (hB z) (hB x)
    have t3 := @fr_le (A z) (B z) (A x) (B x) (A y) (B y) (hB z) (hB x) (hB y)
    omega
end
def nA (x : Int × Int × Int) : Int := ratA (wth x.2.1 * wth x.2.1) (wth x.2.1 + wth x.2.2)
def nB (x : Int × Int × Int) : Int := ratB (wth x.2.1 + wth x.2.2)
def rA (F P : Int) (x : Int × Int × Int) : Int := ratA (rtA F P x.2.1) (rtB F P x.2.1 x.2.2)
def rB (F P : Int) (x : Int × Int × Int) : Int := ratB (rtB F P x.2.1 x.2.2)
theorem ratB_pos {b : Int} (h : 0 ≤ b) : 0 < ratB b := by unfold ratB; split <;> omega
theorem nB_pos (x) : 0 < nB x := ratB_pos (su_le _ _).1
theorem rB_pos (F P : Int) (hF : 0 ≤ F ∧ F ≤ 64) (hP : 0 ≤ P ∧ P ≤ 64) (x) : 0 < rB F P x := ratB_pos (rtB_le F P _ _ hF hP).1
theorem nearC_fr : nearC = frC nA nB := rfl
theorem rateC_fr (F P : Int) : rateC F P = frC (rA F P) (rB F P) := rfl
theorem swo_near : SWO (ltOf (cfM nearC)) := by rw [nearC_fr]; exact swo_frC _ _ nB_pos
theorem swo_rate (F P : Int) (hF : 0 ≤ F ∧ F ≤ 64) (hP : 0 ≤ P ∧ P ≤ 64) : SWO (ltOf (cfM (rateC F P))) := by rw [rateC_fr]; exact swo_frC _ _ (rB_pos F P hF hP)
end Go.Proofs.Ythpnooookkpkaaa.F
namespace Go.Proofs.Ythpnooookkpkaaa.F
open Go.Shelf Go.RowKit Go.Lib Go.Sort Go.Maps Go.Proofs.YthpnooookkpkaaaW.PrintWords Go.Proofs.YthpnooookkpkaaaW.PrintLast Go.Proofs.YthpnooookkpkaaaW.PrintMore
attribute [local go_sem] max2_int min2_int max_two min_two max_three min_three max_four min_four

theorem law44 : Keyed Try.prog 44 := int_keyed Try.underlying44
theorem zero3 (w : World) : (zeroValue 3).run Try.prog w = .ok (.int .i64 0) w := by kernel_rfl
/-- may a suspect be told of? -/
def goodS (F P : Int) (x : S46) : Prop := 0 ≤ x.f1 ∧ 0 ≤ x.f2 ∧ x.f1 ≤ F ∧ x.f2 ≤ P
def Good (F P : Int) (l : List S46) (n : Nat) : Prop := ∀ i : Nat, i < n → goodS F P (rd_T46 l i) ∧ ∀ j : Nat, j < i → (rd_T46 l j).f0 ≠ (rd_T46 l i).f0
def Seen (l : List S46) (n : Nat) (v : Int) : Prop := ∃ j : Nat, j < n ∧ (rd_T46 l j).f0 = v
open Classical in
/-- the map of what was told: of each variable, whether it is among the first n -/
def Told (l : List S46) (n : Nat) (D : DataW Unit) : Prop := ∀ v : Int, D.atKey (.int .u32 v) (.lit (.int .i64 0)) = .lit (.int .i64 (if Seen l n v then 1 else 0))
theorem Good.step {F P : Int} {l : List S46} {n : Nat} (h : Good F P l n) (hs : goodS F P (rd_T46 l n)) (hn : ¬ Seen l n (rd_T46 l n).f0) : Good F P l (n + 1) := by
  intro i hi
  rcases Nat.lt_or_ge i n with h1 | h1
  · exact h i h1
  · obtain rfl : i = n := by omega
    exact ⟨hs, fun j hj he => hn ⟨j, hj, he⟩⟩
theorem Told.start (l : List S46) : Told l 0 (.map []) := by
  intro v
  rw [if_neg (fun ⟨j, hj, _⟩ => absurd hj (Nat.not_lt_zero _))]
  rfl
theorem Told.step {l : List S46} {n : Nat} {D : DataW Unit} (h : Told l n D) (hD : IsMap D) (hk : WideAt.IsKeyLit (.int .u32 (rd_T46 l n).f0)) : Told l (n + 1) (D.put (.int .u32 (rd_T46 l n).f0) (.lit (.int .i64 1))) := by
  intro v
  by_cases hv : v = (rd_T46 l n).f0
  · subst hv
    rw [atKey_put_same hD hk, if_pos ⟨n, by omega, rfl⟩]
  · rw [atKey_put_other (by intro e; injection e with _ e; exact hv e), h v]
    congr 3
    apply propext
    constructor
    · rintro ⟨j, hj, he⟩; exact ⟨j, by omega, he⟩
    · rintro ⟨j, hj, he⟩
      refine ⟨j, ?_, he⟩
      rcases Nat.lt_or_ge j n with h1 | h1
      · exact h1
      · obtain rfl : j = n := by omega
        exact absurd he.symm hv
theorem Told.seen {l : List S46} {n : Nat} {D : DataW Unit} (h : Told l n D) {v c : Int} (hat : D.atKey (.int .u32 v) (.lit (.int .i64 0)) = .lit (.int .i64 c)) (hs : Seen l n v) : c = 1 := by
  rw [h v, if_pos hs] at hat
  injection hat with hat
  injection hat with _ hat
  exact hat.symm
theorem Told.unseen {l : List S46} {n : Nat} {D : DataW Unit} (h : Told l n D) {v c : Int} (hat : D.atKey (.int .u32 v) (.lit (.int .i64 0)) = .lit (.int .i64 c)) (hs : ¬ Seen l n v) : c = 0 := by
  rw [h v, if_neg hs] at hat
  injection hat with hat
  injection hat with _ hat
  exact hat.symm
end Go.Proofs.Ythpnooookkpkaaa.F
namespace Go.Proofs.Ythpnooookkpkaaa.F
open Go.Shelf Go.RowKit Go.Lib Go.Sort Go.Maps Go.Proofs.YthpnooookkpkaaaW.PrintWords Go.Proofs.YthpnooookkpkaaaW.PrintLast Go.Proofs.YthpnooookkpkaaaW.PrintMore
attribute [local go_sem] max2_int min2_int max_two min_two max_three min_three max_four min_four

def RankOK (F P : Int) (l : List S46) : Prop := (0 ≤ F ∧ F ≤ 64 ∧ 0 ≤ P ∧ P ≤ 64) ∧ Good F P l l.length
def mOf (byRate : Bool) (F P : Int) : Int × Int × Int → Int × Int × Int → Int := if byRate then rateC F P else nearC
def Ranked (byRate : Bool) (F P : Int) (l l' : List S46) : Prop := (l'.map toT).Perm (l.map toT) ∧ SortedIn (ltOf (cfM (mOf byRate F P))) 0 l'.length (arrT l')
def RankPost (byRate : Bool) (F P : Int) (l : List S46) (w : World) (e : Ending) (w' : World) : Prop :=
  Below w.heap.size w w' ∧ ((¬ RankOK F P l ∧ e = .returned (.tuple #[.slice none 0 0, .int .i64 2])) ∨
    (RankOK F P l ∧ ∃ A' c' l', l'.length ≤ c' ∧ c' ≤ maxLen ∧ Kd.C k46 w' A' l'.length l' ∧ e = .returned (.tuple #[.slice A' l'.length c', .int .i64 0]) ∧ Ranked byRate F P l l'))
theorem Rank_bad (A : Option Addr) (n c : Nat) (F P : Int) (byRate : Bool) (w : World) (h : ¬ (0 ≤ F ∧ F ≤ 64 ∧ 0 ≤ P ∧ P ≤ 64)) :
    Calls Try.prog 35 #[.slice A n c, .int .i64 F, .int .i64 P, .bool byRate] w fun e w' => e = .returned (.tuple #[.slice none 0 0, .int .i64 2]) ∧ w' = w := by
  by_cases hPF : P < F
  · by_cases h1 : P < 0
    · clear h
      have hFP : ¬ F < P := by omega
      go_enter Try.func35, Try.ntmps35
      go_wp2_with fail
      go_ret2
      exact ⟨by simp, rfl⟩
    · have h2 : 64 < F := by omega
      have hFP : ¬ F < P := by omega
      clear h
      go_enter Try.func35, Try.ntmps35
      go_wp2_with fail
      go_ret2
      exact ⟨by simp, rfl⟩
  · by_cases h1 : F < 0
    · clear h
      go_enter Try.func35, Try.ntmps35
      go_wp2_with fail
      go_ret2
      exact ⟨by simp, rfl⟩
    · have h2 : 64 < P := by omega
      clear h
      rcases (show F < P ∨ F = P by omega) with hFP | rfl
      · go_enter Try.func35, Try.ntmps35
        go_wp2_with fail
        go_ret2
        exact ⟨by simp, rfl⟩
      · go_enter Try.func35, Try.ntmps35
        go_wp2_with fail
        go_ret2
        exact ⟨by simp, rfl⟩

theorem Good.not_of {F P : Int} {l : List S46} {k : Nat} (hk : k < l.length) (h : Seen l k (rd_T46 l k).f0 ∨ ¬ goodS F P (rd_T46 l k)) : ¬ RankOK F P l := by
  rintro ⟨_, hg⟩
  obtain ⟨h1, h2⟩ := hg k hk
  rcases h with ⟨j, hj, he⟩ | h
  · exact h2 j hj he
  · exact h h1
theorem wth_id {n : Int} (h : 0 ≤ n ∧ n ≤ 64) : wth n = n := by unfold wth mn mx; (repeat' split) <;> omega
theorem below_sort {B : Nat} {a W : World} (h : Below B a W) {g : Nat} (hg : B ≤ g) (hW : B ≤ W.heap.size) (n : Nat) (d : Array (Int × Int × Int)) (os : Array Obj) : Below B a (sortWorldK encS 3 W g 0 n d os) := by
  refine h.trans ⟨rfl, rfl, rfl, ?_, fun k hk => ?_⟩
  · exact size_sortWorldK_c _ _ _ _ _ _ _ _
  · unfold sortWorldK
    rw [heap_grow_old _ _ (by rw [size_putRowK]; show k < W.heap.size; omega)]
    show (W.heap.modify g _)[k]? = W.heap[k]?
    rw [Array.getElem?_modify, if_neg (by omega)]
theorem caps_sort {ca cb : Addr} {F P : Int} {w0 w1 : World} {g : Nat} {o : Obj} (h : Caps ca cb F P w0) (hb : Below w0.heap.size w0 w1) (hg : w0.heap.size ≤ g) (m : Nat) (dk : Array (Int × Int × Int)) (os : Array Obj) : Caps ca cb F P (sortWorldK encS 3 (w1.alloc o) g 0 m dk os) := by
  obtain ⟨h1, h2, h3, h4⟩ := h
  have hs := hb.size
  have hz : w0.heap.size ≤ (sortWorldK encS 3 (w1.alloc o) g 0 m dk os).heap.size := Nat.le_trans (by simp; omega) (size_sortWorldK_c _ _ _ _ _ _ _ _)
  refine ⟨by omega, by omega, ?_, ?_⟩
  · refine (cell?_sortWorldK_other _ _ _ _ _ _ _ _ _ (by omega) (by simp; omega)).trans ?_
    exact (((Below.refl w1.heap.size w1).alloc (Nat.le_refl _) o).cell (by omega)).trans ((hb.cell h1).trans h3)
  · refine (cell?_sortWorldK_other _ _ _ _ _ _ _ _ _ (by omega) (by simp; omega)).trans ?_
    exact (((Below.refl w1.heap.size w1).alloc (Nat.le_refl _) o).cell (by omega)).trans ((hb.cell h2).trans h4)
theorem arrT_toS (d : Array (Int × Int × Int)) : arrT (d.toList.map toS) = d := by
  unfold arrT
  rw [List.map_map, show toT ∘ toS = id from rfl, List.map_id]
theorem ranked_of {byRate : Bool} {F P : Int} {l : List S46} {d' : Array (Int × Int × Int)} (hp : PermIn 0 l.length (arrT l) d') (hs : SortedIn (ltOf (cfM (mOf byRate F P))) 0 l.length d') : Ranked byRate F P l (d'.toList.map toS) := by
  have hsz : (arrT l).size = l.length := by simp [arrT]
  rw [← hsz] at hp hs
  obtain ⟨h1, _, h3⟩ := hp
  refine ⟨?_, ?_⟩
  · have e1 : (d'.toList.map toS).map toT = d'.toList := by rw [List.map_map, show toT ∘ toS = id from rfl, List.map_id]
    rw [e1]
    have e2 : (d'.extract 0 (arrT l).size).toList = d'.toList := by rw [← h1]; simp
    have e3 : ((arrT l).extract 0 (arrT l).size).toList = l.map toT := by simp [arrT, List.take_of_length_le]
    rw [e2, e3] at h3
    exact h3
  · rw [arrT_toS, List.length_map, Array.length_toList, h1]
    exact hs
theorem Good_ok {F P : Int} {l : List S46} (hF : 0 ≤ F ∧ F ≤ 64) (hP : 0 ≤ P ∧ P ≤ 64) (h : Good F P l l.length) : RankOK F P l := ⟨⟨hF.1, hF.2, hP.1, hP.2⟩, h⟩
theorem swo_mOf (byRate : Bool) (F P : Int) (hF : 0 ≤ F ∧ F ≤ 64) (hP : 0 ≤ P ∧ P ≤ 64) : SWO (ltOf (cfM (mOf byRate F P))) := by
  cases byRate
  · exact swo_near
  · exact swo_rate F P hF hP
set_option maxRecDepth 100000 in
set_option maxHeartbeats 4000000 in
theorem Rank_ok (A : Option Addr) (l : List S46) (c : Nat) (F P : Int) (byRate : Bool) (w : World) (hr : Kd.C k46 w A l.length l) (hl : l.length ≤ 1000000000) (hwf : ∀ x ∈ l, (Lit.int .u32 x.f0).wf = true)
    (hF : 0 ≤ F ∧ F ≤ 64) (hP : 0 ≤ P ∧ P ≤ 64) :
    Calls Try.prog 35 #[.slice A l.length c, .int .i64 F, .int .i64 P, .bool byRate] w (RankPost byRate F P l w) := by
  have hmm := @run_makeMap Try.prog
  have HR := Aside0.mk hr
  have HWF := Aside0.mk hwf
  obtain ⟨mnv, hmn⟩ : ∃ m : Int, (if P < F then P else F) = m := ⟨_, rfl⟩
  obtain ⟨mxv, hmx⟩ : ∃ m : Int, (if F < P then P else F) = m := ⟨_, rfl⟩
  have hmn0 : ¬ mnv < 0 := by rw [← hmn]; split <;> omega
  have hmx0 : ¬ 64 < mxv := by rw [← hmx]; split <;> omega
  clear hr hwf
  go_enter Try.func35, Try.ntmps35
  go_wp2_with fail
  clear hmn hmx hmn0 hmx0
  go_loopg [28] l.length (fun gg s28 wr => ∃ (kk : Nat) (D : DataW Unit), kk ≤ l.length ∧ l.length - kk ≤ gg ∧ s28 = .int .i64 kk ∧ Aside0 (wr.ownsMap Try.prog 44 (plainElem Try.prog 3) w.heap.size kk D) ∧ Aside0 (Told l kk D) ∧ Aside0 (Good F P l kk) ∧ Aside0 (Below w.heap.size w wr))
  case atStart => exact ⟨0, .map [], by omega, by omega, rfl, ⟨World.ownsMap_made _ _ _ _⟩, ⟨Told.start l⟩, ⟨fun i hi => absurd hi (Nat.not_lt_zero i)⟩, ⟨(Below.refl _ _).alloc (Nat.le_refl _) _⟩⟩
  case round =>
    obtain ⟨kk, D, hkk, hgg, rfl, HO, HT, HG, HB⟩ := hrel
    by_cases hlt : kk < l.length
    · have hltz : (kk : Int) < (l.length : Int) := by omega
      obtain ⟨ad, rfl, h0, h1, h2⟩ := at_T46 (Kd.C_below HR.out HB.out) (kk : Int) (by omega) (by omega)
      rw [Int.toNat_natCast] at h0 h1 h2
      have HX := Aside0.mk (show rd_T46 l (kk : Int) = rd_T46 l kk from rfl)
      have hmem : (Lit.int .u32 (rd_T46 l kk).f0).wf = true := HWF.out _ (by
        show l.getD kk z46 ∈ l
        rw [List.getD_eq_getElem?_getD, List.getElem?_eq_getElem hlt]
        exact List.getElem_mem hlt)
      have HK := Aside0.mk (keyOf_int_mk (q := .u32) Try.underlying44 hmem)
      have HN := Aside0.mk (@Good.not_of F P l kk hlt)
      have HS := Aside0.mk (fun (a : goodS F P (rd_T46 l kk)) (b : ¬ Seen l kk (rd_T46 l kk).f0) => HG.out.step a b)
      have HTS := Aside0.mk (HT.out.step HO.out.isMap (show WideAt.IsKeyLit (.int .u32 (rd_T46 l kk).f0) from trivial))
      clear hmem HX
      generalize rd_T46 l kk = x at h0 h1 h2 HK HN HS HTS
      obtain ⟨v, f, p⟩ := x
      simp only at h0 h1 h2 HK HN HS HTS
      obtain ⟨mnv, hmn⟩ : ∃ m : Int, (if p < f then p else f) = m := ⟨_, rfl⟩
      by_cases hv : Seen l kk v
      · go_wp2_with (first | (at_lookup; refine wpList_lookup_own_int (H := Unit) _ rfl _ _ 84 rfl 44 3 .i64 law44 Try.underlying84 Try.underlying3 (zero3 _) w.heap.size kk D rfl (HO.out.alloc _) _ _ rfl HK.out ?_; intro c hat hwc; obtain rfl := (HT.out.seen hat hv); clear hat hwc))
        go_ret2
        exact ⟨HB.out.alloc HB.out.size _, .inl ⟨HN.out (.inl hv), rfl⟩⟩
      · by_cases hm : mnv < 0
        · have HBAD := Aside0.mk (show ¬ goodS F P ⟨v, f, p⟩ by rintro ⟨g1, g2, _, _⟩; simp only at g1 g2; rw [← hmn] at hm; split at hm <;> omega)
          go_wp2_with (first | (at_lookup; refine wpList_lookup_own_int (H := Unit) _ rfl _ _ 84 rfl 44 3 .i64 law44 Try.underlying84 Try.underlying3 (zero3 _) w.heap.size kk D rfl (HO.out.alloc _) _ _ rfl HK.out ?_; intro c hat hwc; obtain rfl := (HT.out.unseen hat hv); clear hat hwc))
          go_ret2
          exact ⟨HB.out.alloc HB.out.size _, .inl ⟨HN.out (.inr HBAD.out), rfl⟩⟩
        · have HM := Aside0.mk (show 0 ≤ f ∧ 0 ≤ p by rw [← hmn] at hm; split at hm <;> omega)
          by_cases hf : F < f
          · have HBAD := Aside0.mk (show ¬ goodS F P ⟨v, f, p⟩ by rintro ⟨_, _, g1, g2⟩; simp only at g1 g2; omega)
            go_wp2_with (first | (at_lookup; refine wpList_lookup_own_int (H := Unit) _ rfl _ _ 84 rfl 44 3 .i64 law44 Try.underlying84 Try.underlying3 (zero3 _) w.heap.size kk D rfl (HO.out.alloc _) _ _ rfl HK.out ?_; intro c hat hwc; obtain rfl := (HT.out.unseen hat hv); clear hat hwc))
            go_ret2
            exact ⟨HB.out.alloc HB.out.size _, .inl ⟨HN.out (.inr HBAD.out), rfl⟩⟩
          · by_cases hp : P < p
            · have HBAD := Aside0.mk (show ¬ goodS F P ⟨v, f, p⟩ by rintro ⟨_, _, g1, g2⟩; simp only at g1 g2; omega)
              go_wp2_with (first | (at_lookup; refine wpList_lookup_own_int (H := Unit) _ rfl _ _ 84 rfl 44 3 .i64 law44 Try.underlying84 Try.underlying3 (zero3 _) w.heap.size kk D rfl (HO.out.alloc _) _ _ rfl HK.out ?_; intro c hat hwc; obtain rfl := (HT.out.unseen hat hv); clear hat hwc))
              go_ret2
              exact ⟨HB.out.alloc HB.out.size _, .inl ⟨HN.out (.inr HBAD.out), rfl⟩⟩
            · have HGS := Aside0.mk (HS.out ⟨HM.out.1, HM.out.2, by simp only; omega, by simp only; omega⟩ hv)
              have HLEN := Aside0.mk (show kk < maxLen by unfold maxLen; omega)
              go_wp2_with (first | (at_lookup; refine wpList_lookup_own_int (H := Unit) _ rfl _ _ 84 rfl 44 3 .i64 law44 Try.underlying84 Try.underlying3 (zero3 _) w.heap.size kk D rfl (HO.out.alloc _) _ _ rfl HK.out ?_; intro c hat hwc; obtain rfl := (HT.out.unseen hat hv); clear hat hwc) | (at_mapUpdate; refine wpList_mapUpdate_own (H := Unit) _ rfl _ _ _ 84 rfl 44 3 law44 Try.underlying84 (plainElem Try.prog 3) w.heap.size kk D rfl (HO.out.alloc _) HLEN.out _ _ _ rfl rfl HK.out (.lit (.int .i64 1)) [] (plainElem_int Try.underlying3 rfl) ?_; intro w1 hown1 hgrow1; have HO1 := Aside0.mk hown1; have HB1 := Aside0.mk (Below.grown (HB.out.alloc HB.out.size _) hgrow1 (by have := HB.out.size; simp; omega) (fun j hj => by cases hj; exact Nat.le_refl _)); clear hown1 hgrow1))
              go_roundg (l.length - (kk + 1))
              case measure => omega
              case rel => exact ⟨kk + 1, _, by omega, by omega, by go_num, HO1, HTS, HGS, HB1⟩
    · obtain rfl : kk = l.length := by omega
      have hltz : ¬ ((l.length : Nat) : Int) < ((l.length : Nat) : Int) := by omega
      have HOK := Aside0.mk (Good_ok hF hP HG.out)
      have HW := Aside0.mk (swo_mOf byRate F P hF hP)
      clear HO HT HG
      cases byRate
      · go_wp2_with fail
        refine (clone_c A l c wr (Kd.C_below HR.out HB.out) hl).mono ?_
        rintro e w1 ⟨v, rfl, hv, hb1⟩
        have HB1 := Aside0.mk (below_step HB.out hb1)
        rcases holds_of_R hv with ⟨rfl, rfl⟩ | ⟨g, cap, rfl, hg, hg2, hcap, hcm, hH⟩
        · clear hv hb1
          go_wp2_with fail
          refine (sort_none _ _ _ _).mono ?_
          rintro e w2 ⟨rfl, hgr⟩
          have HB2 := Aside0.mk (below_step HB1.out hgr.below)
          clear hgr
          go_wp2_with fail
          go_ret2
          exact ⟨HB2.out, .inr ⟨HOK.out, none, 0, [], Nat.le_refl _, Nat.zero_le _, Kd.C_nil _ _, rfl, List.Perm.refl _, fun i j _ _ hj => by simp at hj⟩⟩
        · have hsz : (arrT l).size = l.length := by simp [arrT]
          have hgB : w.heap.size ≤ g := Nat.le_trans HB.out.size hg
          have HH := Aside0.mk hH
          have HC := Aside0.mk (sort_c 57 #[] nearC swo_near (fun _ => True) (fun _ _ _ _ => trivial) (fun x y W _ => cmpNear x y W) g cap (arrT l) w1 hH hg2 (by omega) (fun _ _ _ => trivial))
          clear hv hb1 hH
          rw [hsz] at HC
          go_wp2_with fail
          refine HC.out.mono ?_
          rintro e w2 ⟨rfl, d', n, os, hp, hs, rfl⟩
          have HP := Aside0.mk hp
          have HS := Aside0.mk hs
          clear hp hs
          have HC2 := Aside0.mk (C_of_holds (holdsK_sortWorldK encS 3 (w1.alloc (.cells #[.func (.func 57) #[] #[]] 80)) g 0 n (arrT l) d' os (by simp; omega) (by rw [alloc_eq_grow]; exact holdsK_grow encS 3 w1 _ g 0 _ hg2 HH.out) HP.out.1) (by rw [HP.out.1]; omega))
          have HL := Aside0.mk (show d'.size = l.length by rw [HP.out.1, hsz])
          have HB3 := Aside0.mk (below_sort (HB1.out.alloc HB1.out.size (.cells #[.func (.func 57) #[] #[]] 80)) hgB (by have := HB1.out.size; simp; omega) n d' os)
          generalize sortWorldK encS 3 (w1.alloc (.cells #[.func (.func 57) #[] #[]] 80)) g 0 n d' os = w3 at HC2 HB3 ⊢
          go_wp2_with fail
          go_ret2
          have hl' : (d'.toList.map toS).length = l.length := by simp [HL.out]
          refine ⟨HB3.out, .inr ⟨HOK.out, some ⟨g, 0, none⟩, cap, d'.toList.map toS, by omega, hcm, ?_, by rw [hl']; rfl, ranked_of HP.out HS.out⟩⟩
          rw [hl', ← HL.out]
          exact HC2.out
      · go_wp2_with fail
        refine (rate_c F P wr).mono ?_
        rintro e w0 ⟨ca, cb, rfl, hcap0, hgr0⟩
        rw [wth_id hF, wth_id hP] at hcap0
        have HCP := Aside0.mk hcap0
        have HB0 := Aside0.mk (below_step HB.out hgr0.below)
        clear hcap0 hgr0
        go_wp2_with fail
        refine (clone_c A l c w0 (Kd.C_below HR.out HB0.out) hl).mono ?_
        rintro e w1 ⟨v, rfl, hv, hb1⟩
        have HB1 := Aside0.mk (below_step HB0.out hb1)
        rcases holds_of_R hv with ⟨rfl, rfl⟩ | ⟨g, cap, rfl, hg, hg2, hcap, hcm, hH⟩
        · clear hv hb1
          go_wp2_with fail
          refine (sort_none _ _ _ _).mono ?_
          rintro e w2 ⟨rfl, hgr⟩
          have HB2 := Aside0.mk (below_step HB1.out hgr.below)
          clear hgr
          go_wp2_with fail
          go_ret2
          exact ⟨HB2.out, .inr ⟨HOK.out, none, 0, [], Nat.le_refl _, Nat.zero_le _, Kd.C_nil _ _, rfl, List.Perm.refl _, fun i j _ _ hj => by simp at hj⟩⟩
        · have hsz : (arrT l).size = l.length := by simp [arrT]
          have hgB : w.heap.size ≤ g := Nat.le_trans HB0.out.size hg
          have HH := Aside0.mk hH
          have HC := Aside0.mk (sort_c 85 #[.pointer (some ca), .pointer (some cb)] (rateC F P) (swo_rate F P hF hP) (Caps ca cb F P) Caps.grown (fun x y W h => cmpRate ca cb F P hF hP x y W h) g cap (arrT l) w1 hH hg2 (by omega) (fun m os dk => caps_sort HCP.out hb1 hg m dk os))
          clear hv hb1 hH
          rw [hsz] at HC
          go_wp2_with fail
          refine HC.out.mono ?_
          rintro e w2 ⟨rfl, d', n, os, hp, hs, rfl⟩
          have HP := Aside0.mk hp
          have HS := Aside0.mk hs
          clear hp hs
          have HC2 := Aside0.mk (C_of_holds (holdsK_sortWorldK encS 3 (w1.alloc (.cells #[.func (.func 85) #[] #[.pointer (some ca), .pointer (some cb)]] 80)) g 0 n (arrT l) d' os (by simp; omega) (by rw [alloc_eq_grow]; exact holdsK_grow encS 3 w1 _ g 0 _ hg2 HH.out) HP.out.1) (by rw [HP.out.1]; omega))
          have HL := Aside0.mk (show d'.size = l.length by rw [HP.out.1, hsz])
          have HB3 := Aside0.mk (below_sort (HB1.out.alloc HB1.out.size (.cells #[.func (.func 85) #[] #[.pointer (some ca), .pointer (some cb)]] 80)) hgB (by have := HB1.out.size; simp; omega) n d' os)
          generalize sortWorldK encS 3 (w1.alloc (.cells #[.func (.func 85) #[] #[.pointer (some ca), .pointer (some cb)]] 80)) g 0 n d' os = w3 at HC2 HB3 ⊢
          go_wp2_with fail
          go_ret2
          have hl' : (d'.toList.map toS).length = l.length := by simp [HL.out]
          refine ⟨HB3.out, .inr ⟨HOK.out, some ⟨g, 0, none⟩, cap, d'.toList.map toS, by omega, hcm, ?_, by rw [hl']; rfl, ranked_of HP.out HS.out⟩⟩
          rw [hl', ← HL.out]
          exact HC2.out

theorem Rank_c (A : Option Addr) (l : List S46) (c : Nat) (F P : Int) (byRate : Bool) (w : World) (hr : Kd.C k46 w A l.length l) (hl : l.length ≤ 1000000000) (hwf : ∀ x ∈ l, (Lit.int .u32 x.f0).wf = true) :
    Calls Try.prog 35 #[.slice A l.length c, .int .i64 F, .int .i64 P, .bool byRate] w (RankPost byRate F P l w) := by
  by_cases h : 0 ≤ F ∧ F ≤ 64 ∧ 0 ≤ P ∧ P ≤ 64
  · exact Rank_ok A l c F P byRate w hr hl hwf ⟨h.1, h.2.1⟩ ⟨h.2.2.1, h.2.2.2⟩
  · refine (Rank_bad A l.length c F P byRate w h).mono ?_
    rintro e w' ⟨rfl, rfl⟩
    exact ⟨Below.refl _ _, .inl ⟨fun g => h g.1, rfl⟩⟩
end Go.Proofs.Ythpnooookkpkaaa.F
/- A function of the program as a plain Lean function, and that the machine's call comes to it: written by a program of this session over the kit's print. -/
namespace Go.Proofs.Ythpnooookkpkaaa.F
open Go.RowKit Go.Proofs.YthpnooookkpkaaaW.PrintWords Go.Proofs.YthpnooookkpkaaaW.PrintLast Go.Proofs.YthpnooookkpkaaaW.PrintMore
attribute [local go_sem] max2_int min2_int max_two min_two max_three min_three max_four min_four   -- for this text's walks alone
set_option linter.unusedVariables false
set_option linter.unusedSimpArgs false

/-! ### inquestlaw33_three: function 60 -/
def inquestlaw33_three.f  : Option ((List (S46))) := some (([(⟨3, 2, 0⟩ : S46), (⟨4, 2, 2⟩ : S46), (⟨5, 1, 0⟩ : S46)] : List (S46)))
set_option maxHeartbeats 8000000 in
set_option maxRecDepth 100000 in
theorem inquestlaw33_three.calls  (r : List (S46)) (w : World) (h : inquestlaw33_three.f  = some r) :
    Calls Try.prog 60 #[] w fun e w' => ∃ v0_ : Value, e = .returned (v0_) ∧ Kd.R k46 46 w' w.heap.size (fun _ => True) v0_ r ∧ Below w.heap.size w w' := by
  have hu46 := Try.underlying46
  have HB := Aside0.mk (Below.refl w.heap.size w)
  have H : (some (([(⟨3, 2, 0⟩ : S46), (⟨4, 2, 2⟩ : S46), (⟨5, 1, 0⟩ : S46)] : List (S46)))) = some r := h
  clear h
  obtain ⟨y101, hy101⟩ : ∃ y_ : List (S46), y_ = (([(⟨3, 2, 0⟩ : S46), (⟨4, 2, 2⟩ : S46), (⟨5, 1, 0⟩ : S46)] : List (S46))) := ⟨_, rfl⟩
  replace H : (some y101) = some r := by first | (rw [hy101]; with_reducible exact H) | (have H2_ := (Option.bind_some _ _).symm.trans H; rw [hy101]; with_reducible exact H2_) | (have H2_ := (Option.bind_some _ _).symm.trans H; with_reducible exact H2_) | with_reducible exact H | (rw [hy101]; exact H) | exact H
  have Ny101 := Aside0.mk hy101
  clear hy101
  obtain rfl := Option.some.inj H
  go_enter Try.func60, Try.ntmps60
  go_wp2_with (first | ((with_reducible refine gate_dst (N := 4) rfl ?_); refine Kd.R_lit k46 _ 46 ?hg (N := 4) ?hd (xs := ([(⟨3, 2, 0⟩ : S46), (⟨4, 2, 2⟩ : S46), (⟨5, 1, 0⟩ : S46)] : List (S46))) (inner := [.int .u32 3, .int .i64 2, .int .i64 0, .int .u32 4, .int .i64 2, .int .i64 2, .int .u32 5, .int .i64 1, .int .i64 0]) (ok := fun _ => True) (okp := fun _ => True) ?hr ?hp (fun _ hk => hk) trivial (Below.refl _ _) (Nat.le_refl _) (by simp) ?_; (case hd => rfl); (case hg => rfl); (case hr => first | (go_simp; done) | (go_simp; rfl)); (case hp => exact (Reps.c3 (show Kd.M k46 _ _ _ (⟨3, 2, 0⟩ : S46) [.int .u32 3, .int .i64 2, .int .i64 0] from (k46_mkM _ _ _ (⟨3, 2, 0⟩ : S46) )) (Reps.c3 (show Kd.M k46 _ _ _ (⟨4, 2, 2⟩ : S46) [.int .u32 4, .int .i64 2, .int .i64 2] from (k46_mkM _ _ _ (⟨4, 2, 2⟩ : S46) )) (Reps.c3 (show Kd.M k46 _ _ _ (⟨5, 1, 0⟩ : S46) [.int .u32 5, .int .i64 1, .int .i64 0] from (k46_mkM _ _ _ (⟨5, 1, 0⟩ : S46) )) (Reps.none _ _))))); intro v102 w1 ho2 hb hg_ hnew_; clear hg_ hnew_; (first | rw [← Ny101.out] at ho2 | (simp only [Int.reduceToNat] at ho2; rw [← Ny101.out] at ho2)); have n0_ := Aside0.mk (Kd.R_lower ho2 (below_size (by repeat (first | (with_reducible first | exact HB.out | apply below_alloc | apply pw_below_drewN | apply below_drew1) | exact HB.out)))); have n1_ := Aside0.mk (below_step (by repeat (first | (with_reducible first | exact HB.out | apply below_alloc | apply pw_below_drewN | apply below_drew1) | exact HB.out)) hb); clear HB; have HO103 := n0_; have HB := n1_; clear n0_ n1_; clear hb ho2))
  go_ret
  exact ⟨_, by first | rfl | (simp [errW_none, errW_some] <;> rfl) | (simp [*, errW_none, errW_some] <;> rfl), by (with_reducible repeat (first | apply Kd.R_alloc | apply Kd.R_drewN | apply Kd.R_drew)); exact HO103.out, by repeat (first | (with_reducible first | exact HB.out | apply below_alloc | apply pw_below_drewN | apply below_drew1) | exact HB.out)⟩

end Go.Proofs.Ythpnooookkpkaaa.F
/- A function of the program as a plain Lean function, and that the machine's call comes to it: written by a program of this session over the kit's print. -/
namespace Go.Proofs.Ythpnooookkpkaaa.F
open Go.RowKit Go.Proofs.YthpnooookkpkaaaW.PrintWords Go.Proofs.YthpnooookkpkaaaW.PrintLast Go.Proofs.YthpnooookkpkaaaW.PrintMore
attribute [local go_sem] max2_int min2_int max_two min_two max_three min_three max_four min_four   -- for this text's walks alone
set_option linter.unusedVariables false
set_option linter.unusedSimpArgs false

/-! ### inquestlaw33_in: function 61 -/
def inquestlaw33_in.f (l0 : List (S46)) (a1 : Int) (a2 : Int) (a3 : Int) : Option (Bool) := if (l0.length : Int) = 3 then (if 0 < (l0.length : Int) then (if ((rd_T46 l0 0).f0) = a1 then (if 1 < (l0.length : Int) then (if ((rd_T46 l0 1).f0) = a2 then (if 2 < (l0.length : Int) then (some (((rd_T46 l0 2).f0) == a3)) else (none)) else (some false)) else (none)) else (some false)) else (none)) else (some false)
set_option maxHeartbeats 8000000 in
set_option maxRecDepth 100000 in
theorem inquestlaw33_in.calls (A0 : Option Addr) (c0 : Nat) (l0 : List (S46)) (a1 : Int) (a2 : Int) (a3 : Int) (r : Bool) (w : World) (hr0 : Kd.C k46 w A0 l0.length l0) (hc0 : l0.length ≤ c0) (h : inquestlaw33_in.f l0 a1 a2 a3 = some r) :
    Calls Try.prog 61 #[.slice A0 l0.length c0, .int .u32 a1, .int .u32 a2, .int .u32 a3] w fun e w' => e = .returned (.bool r) ∧ Drawn0 w w' := by
  have HR0 := Aside0.mk hr0
  have HC0 := Aside0.mk hc0
  clear hr0 hc0
  have H : (if (l0.length : Int) = 3 then (if 0 < (l0.length : Int) then (if ((rd_T46 l0 0).f0) = a1 then (if 1 < (l0.length : Int) then (if ((rd_T46 l0 1).f0) = a2 then (if 2 < (l0.length : Int) then (some (((rd_T46 l0 2).f0) == a3)) else (none)) else (some false)) else (none)) else (some false)) else (none)) else (some false)) = some r := h
  clear h
  by_cases c5 : (l0.length : Int) = 3
  · rw [if_pos c5] at H
    have c5b0 : ((l0.length : Int) == 3) = true := beq_iff_eq.mpr c5
    have c5b1 : ((l0.length : Int) != 3) = false := bne_eq_false_iff_eq.mpr c5
    clear c5
    by_cases c6 : 0 < (l0.length : Int)
    · rw [if_pos c6] at H
      have c6b0 : decide (0 < (l0.length : Int)) = true := decide_eq_true c6
      have c6b1 : decide (0 < l0.length) = true := decide_eq_true (by omega)
      clear c6
      by_cases c7 : ((rd_T46 l0 0).f0) = a1
      · rw [if_pos c7] at H
        have c7b0 : (((rd_T46 l0 0).f0) == a1) = true := beq_iff_eq.mpr c7
        have c7b1 : (((rd_T46 l0 0).f0) != a1) = false := bne_eq_false_iff_eq.mpr c7
        clear c7
        by_cases c8 : 1 < (l0.length : Int)
        · rw [if_pos c8] at H
          have c8b0 : decide (1 < (l0.length : Int)) = true := decide_eq_true c8
          have c8b1 : decide (1 < l0.length) = true := decide_eq_true (by omega)
          clear c8
          by_cases c9 : ((rd_T46 l0 1).f0) = a2
          · rw [if_pos c9] at H
            have c9b0 : (((rd_T46 l0 1).f0) == a2) = true := beq_iff_eq.mpr c9
            have c9b1 : (((rd_T46 l0 1).f0) != a2) = false := bne_eq_false_iff_eq.mpr c9
            clear c9
            by_cases c10 : 2 < (l0.length : Int)
            · rw [if_pos c10] at H
              have c10b0 : decide (2 < (l0.length : Int)) = true := decide_eq_true c10
              have c10b1 : decide (2 < l0.length) = true := decide_eq_true (by omega)
              clear c10
              obtain rfl := Option.some.inj H
              have p101 : 0 ≤ (0 : Int) := (by omega)
              have q101 : 0 < (l0.length : Int) := of_decide_eq_true (by first | (with_reducible assumption) | assumption)
              obtain ⟨ad101, e101, hx101_0, hx101_1, hx101_2⟩ := at_T46 HR0.out 0 p101 q101
              cases e101
              have qi101 : (0 < l0.length) = True := eq_true (by omega)
              (try rw [show ((0 : Int)).toNat = 0 from rfl] at hx101_0)
              (try rw [show 0 * 3 = 0 from rfl] at hx101_0)
              (try rw [Addr.add_zero'] at hx101_0)
              (try rw [show ((0 : Int)).toNat = 0 from rfl] at hx101_1)
              (try rw [show 0 * 3 = 0 from rfl] at hx101_1)
              (try rw [Addr.add_zero'] at hx101_1)
              (try rw [show ((0 : Int)).toNat = 0 from rfl] at hx101_2)
              (try rw [show 0 * 3 = 0 from rfl] at hx101_2)
              (try rw [Addr.add_zero'] at hx101_2)
              replace p101 := eq_true p101
              replace q101 := eq_true q101
              have p102 : 0 ≤ (1 : Int) := (by omega)
              have q102 : 1 < (l0.length : Int) := of_decide_eq_true (by first | (with_reducible assumption) | assumption)
              obtain ⟨ad102, e102, hx102_0, hx102_1, hx102_2⟩ := at_T46 HR0.out 1 p102 q102
              obtain rfl : ad101 = ad102 := (by injection e102)
              (try simp only [show (1 : Int).toNat = 1 from rfl, Nat.reduceMul, Nat.reduceEqDiff, Go.Addr.add, ↓reduceIte] at hx102_0)
              (try simp only [show (1 : Int).toNat = 1 from rfl, Nat.reduceMul, Nat.reduceEqDiff, Go.Addr.add, ↓reduceIte] at hx102_1)
              (try simp only [show (1 : Int).toNat = 1 from rfl, Nat.reduceMul, Nat.reduceEqDiff, Go.Addr.add, ↓reduceIte] at hx102_2)
              have qi102 : (1 < l0.length) = True := eq_true (by omega)
              (try rw [show ((1 : Int)).toNat = 1 from rfl] at hx102_0)
              (try rw [show 1 * 3 = 3 from rfl] at hx102_0)
              (try rw [show ((1 : Int)).toNat = 1 from rfl] at hx102_1)
              (try rw [show 1 * 3 = 3 from rfl] at hx102_1)
              (try rw [show ((1 : Int)).toNat = 1 from rfl] at hx102_2)
              (try rw [show 1 * 3 = 3 from rfl] at hx102_2)
              replace p102 := eq_true p102
              replace q102 := eq_true q102
              have p103 : 0 ≤ (2 : Int) := (by omega)
              have q103 : 2 < (l0.length : Int) := of_decide_eq_true (by first | (with_reducible assumption) | assumption)
              obtain ⟨ad103, e103, hx103_0, hx103_1, hx103_2⟩ := at_T46 HR0.out 2 p103 q103
              obtain rfl : ad101 = ad103 := (by injection e103)
              (try simp only [show (2 : Int).toNat = 2 from rfl, Nat.reduceMul, Nat.reduceEqDiff, Go.Addr.add, ↓reduceIte] at hx103_0)
              (try simp only [show (2 : Int).toNat = 2 from rfl, Nat.reduceMul, Nat.reduceEqDiff, Go.Addr.add, ↓reduceIte] at hx103_1)
              (try simp only [show (2 : Int).toNat = 2 from rfl, Nat.reduceMul, Nat.reduceEqDiff, Go.Addr.add, ↓reduceIte] at hx103_2)
              have qi103 : (2 < l0.length) = True := eq_true (by omega)
              (try rw [show ((2 : Int)).toNat = 2 from rfl] at hx103_0)
              (try rw [show 2 * 3 = 6 from rfl] at hx103_0)
              (try rw [show ((2 : Int)).toNat = 2 from rfl] at hx103_1)
              (try rw [show 2 * 3 = 6 from rfl] at hx103_1)
              (try rw [show ((2 : Int)).toNat = 2 from rfl] at hx103_2)
              (try rw [show 2 * 3 = 6 from rfl] at hx103_2)
              replace p103 := eq_true p103
              replace q103 := eq_true q103
              go_enter Try.func61, Try.ntmps61
              go_wp2
              go_ret
              exact ⟨by first | rfl | (simp; done) | (simp [*]; done), by repeat (first | exact Drawn0.refl _ | apply Drawn0.step)⟩
            · rw [if_neg c10] at H
              exact absurd H (by simp)
          · rw [if_neg c9] at H
            have c9b0 : (((rd_T46 l0 1).f0) == a2) = false := beq_eq_false_iff_ne.mpr c9
            have c9b1 : (((rd_T46 l0 1).f0) != a2) = true := bne_iff_ne.mpr c9
            obtain rfl := Option.some.inj H
            have p101 : 0 ≤ (0 : Int) := (by omega)
            have q101 : 0 < (l0.length : Int) := of_decide_eq_true (by first | (with_reducible assumption) | assumption)
            obtain ⟨ad101, e101, hx101_0, hx101_1, hx101_2⟩ := at_T46 HR0.out 0 p101 q101
            cases e101
            have qi101 : (0 < l0.length) = True := eq_true (by omega)
            (try rw [show ((0 : Int)).toNat = 0 from rfl] at hx101_0)
            (try rw [show 0 * 3 = 0 from rfl] at hx101_0)
            (try rw [Addr.add_zero'] at hx101_0)
            (try rw [show ((0 : Int)).toNat = 0 from rfl] at hx101_1)
            (try rw [show 0 * 3 = 0 from rfl] at hx101_1)
            (try rw [Addr.add_zero'] at hx101_1)
            (try rw [show ((0 : Int)).toNat = 0 from rfl] at hx101_2)
            (try rw [show 0 * 3 = 0 from rfl] at hx101_2)
            (try rw [Addr.add_zero'] at hx101_2)
            replace p101 := eq_true p101
            replace q101 := eq_true q101
            have p102 : 0 ≤ (1 : Int) := (by omega)
            have q102 : 1 < (l0.length : Int) := of_decide_eq_true (by first | (with_reducible assumption) | assumption)
            obtain ⟨ad102, e102, hx102_0, hx102_1, hx102_2⟩ := at_T46 HR0.out 1 p102 q102
            obtain rfl : ad101 = ad102 := (by injection e102)
            (try simp only [show (1 : Int).toNat = 1 from rfl, Nat.reduceMul, Nat.reduceEqDiff, Go.Addr.add, ↓reduceIte] at hx102_0)
            (try simp only [show (1 : Int).toNat = 1 from rfl, Nat.reduceMul, Nat.reduceEqDiff, Go.Addr.add, ↓reduceIte] at hx102_1)
            (try simp only [show (1 : Int).toNat = 1 from rfl, Nat.reduceMul, Nat.reduceEqDiff, Go.Addr.add, ↓reduceIte] at hx102_2)
            have qi102 : (1 < l0.length) = True := eq_true (by omega)
            (try rw [show ((1 : Int)).toNat = 1 from rfl] at hx102_0)
            (try rw [show 1 * 3 = 3 from rfl] at hx102_0)
            (try rw [show ((1 : Int)).toNat = 1 from rfl] at hx102_1)
            (try rw [show 1 * 3 = 3 from rfl] at hx102_1)
            (try rw [show ((1 : Int)).toNat = 1 from rfl] at hx102_2)
            (try rw [show 1 * 3 = 3 from rfl] at hx102_2)
            replace p102 := eq_true p102
            replace q102 := eq_true q102
            go_enter Try.func61, Try.ntmps61
            go_wp2
            go_ret
            exact ⟨by first | rfl | (simp; done) | (simp [*]; done), by repeat (first | exact Drawn0.refl _ | apply Drawn0.step)⟩
        · rw [if_neg c8] at H
          exact absurd H (by simp)
      · rw [if_neg c7] at H
        have c7b0 : (((rd_T46 l0 0).f0) == a1) = false := beq_eq_false_iff_ne.mpr c7
        have c7b1 : (((rd_T46 l0 0).f0) != a1) = true := bne_iff_ne.mpr c7
        obtain rfl := Option.some.inj H
        have p101 : 0 ≤ (0 : Int) := (by omega)
        have q101 : 0 < (l0.length : Int) := of_decide_eq_true (by first | (with_reducible assumption) | assumption)
        obtain ⟨ad101, e101, hx101_0, hx101_1, hx101_2⟩ := at_T46 HR0.out 0 p101 q101
        cases e101
        have qi101 : (0 < l0.length) = True := eq_true (by omega)
        (try rw [show ((0 : Int)).toNat = 0 from rfl] at hx101_0)
        (try rw [show 0 * 3 = 0 from rfl] at hx101_0)
        (try rw [Addr.add_zero'] at hx101_0)
        (try rw [show ((0 : Int)).toNat = 0 from rfl] at hx101_1)
        (try rw [show 0 * 3 = 0 from rfl] at hx101_1)
        (try rw [Addr.add_zero'] at hx101_1)
        (try rw [show ((0 : Int)).toNat = 0 from rfl] at hx101_2)
        (try rw [show 0 * 3 = 0 from rfl] at hx101_2)
        (try rw [Addr.add_zero'] at hx101_2)
        replace p101 := eq_true p101
        replace q101 := eq_true q101
        go_enter Try.func61, Try.ntmps61
        go_wp2
        go_ret
        exact ⟨by first | rfl | (simp; done) | (simp [*]; done), by repeat (first | exact Drawn0.refl _ | apply Drawn0.step)⟩
    · rw [if_neg c6] at H
      exact absurd H (by simp)
  · rw [if_neg c5] at H
    have c5b0 : ((l0.length : Int) == 3) = false := beq_eq_false_iff_ne.mpr c5
    have c5b1 : ((l0.length : Int) != 3) = true := bne_iff_ne.mpr c5
    obtain rfl := Option.some.inj H
    go_enter Try.func61, Try.ntmps61
    go_wp2
    go_ret
    exact ⟨by first | rfl | (simp; done) | (simp [*]; done), by repeat (first | exact Drawn0.refl _ | apply Drawn0.step)⟩

end Go.Proofs.Ythpnooookkpkaaa.F
namespace Go.Proofs.Ythpnooookkpkaaa.F
open Go.Shelf Go.RowKit Go.Lib Go.Sort Go.Maps Go.Proofs.YthpnooookkpkaaaW.PrintWords Go.Proofs.YthpnooookkpkaaaW.PrintLast Go.Proofs.YthpnooookkpkaaaW.PrintMore
attribute [local go_sem] max2_int min2_int max_two min_two max_three min_three max_four min_four

def three : List S46 := [⟨3, 2, 0⟩, ⟨4, 2, 2⟩, ⟨5, 1, 0⟩]
theorem Good_three : RankOK 2 2 three := by
  refine ⟨by omega, fun i hi => ?_⟩
  rcases (show i = 0 ∨ i = 1 ∨ i = 2 by simp [three] at hi; omega) with rfl | rfl | rfl
  · exact ⟨by simp [goodS, three, rd_T46], fun j hj => by omega⟩
  · refine ⟨by simp [goodS, three, rd_T46], fun j hj => ?_⟩
    obtain rfl : j = 0 := by omega
    simp [three, rd_T46]
  · refine ⟨by simp [goodS, three, rd_T46], fun j hj => ?_⟩
    rcases (show j = 0 ∨ j = 1 by omega) with rfl | rfl <;> simp [three, rd_T46]
/-- what is ranked of the three -/
theorem three_sorted (byRate : Bool) (l' : List S46) (h : Ranked byRate 2 2 three l') : l' = if byRate then [⟨3, 2, 0⟩, ⟨5, 1, 0⟩, ⟨4, 2, 2⟩] else [⟨3, 2, 0⟩, ⟨4, 2, 2⟩, ⟨5, 1, 0⟩] := by
  obtain ⟨hp, hs⟩ := h
  have hlen : l'.length = 3 := by have := hp.length_eq; simpa [three] using this
  match l', hlen with
  | [a, b, c], _ =>
    have hnd : ([a, b, c].map toT).Nodup := hp.nodup_iff.mpr (by decide)
    have ha : toT a ∈ three.map toT := hp.subset (by simp)
    have hb : toT b ∈ three.map toT := hp.subset (by simp)
    have hc : toT c ∈ three.map toT := hp.subset (by simp)
    have s1 := hs 0 1 (by omega) (by omega) (by simp)
    have s2 := hs 1 2 (by omega) (by omega) (by simp)
    obtain ⟨a0, a1, a2⟩ := a
    obtain ⟨b0, b1, b2⟩ := b
    obtain ⟨c0, c1, c2⟩ := c
    simp only [three, List.map_cons, List.map_nil, toT, List.mem_cons, Prod.mk.injEq, List.not_mem_nil, or_false] at ha hb hc
    rcases ha with ⟨rfl, rfl, rfl⟩ | ⟨rfl, rfl, rfl⟩ | ⟨rfl, rfl, rfl⟩ <;> rcases hb with ⟨rfl, rfl, rfl⟩ | ⟨rfl, rfl, rfl⟩ | ⟨rfl, rfl, rfl⟩ <;> rcases hc with ⟨rfl, rfl, rfl⟩ | ⟨rfl, rfl, rfl⟩ | ⟨rfl, rfl, rfl⟩ <;> first
      | exact absurd hnd (by decide)
      | (cases byRate <;> first | rfl | exact absurd s1 (by decide) | exact absurd s2 (by decide))

theorem ranks_three (byRate : Bool) (w : World) (e : Ending) (w' : World) (h : RankPost byRate 2 2 three w e w') :
    ∃ (l : List S46) (A' : Option Addr) (c' : Nat), l = (if byRate then [⟨3, 2, 0⟩, ⟨5, 1, 0⟩, ⟨4, 2, 2⟩] else [⟨3, 2, 0⟩, ⟨4, 2, 2⟩, ⟨5, 1, 0⟩]) ∧ e = .returned (.tuple #[.slice A' l.length c', .int .i64 0]) ∧ Kd.C k46 w' A' l.length l ∧ l.length ≤ c' ∧ Below w.heap.size w w' := by
  obtain ⟨hb, ⟨hn, _⟩ | ⟨_, A', c', l', h1, _, h2, h3, h4⟩⟩ := h
  · exact absurd Good_three hn
  · exact ⟨l', A', c', three_sorted byRate l' h4, h3, h2, h1, hb⟩
set_option maxRecDepth 100000 in
set_option maxHeartbeats 2000000 in
theorem lives33_c (w : World) : Calls Try.prog 34 #[] w fun e w' => e = .returned (.bool true) ∧ Below w.heap.size w w' := by
  have hwf : ∀ x ∈ three, (Lit.int .u32 x.f0).wf = true := by decide
  have hth : inquestlaw33_three.f = some three := rfl
  have hin1 : inquestlaw33_in.f [⟨3, 2, 0⟩, ⟨4, 2, 2⟩, ⟨5, 1, 0⟩] 3 4 5 = some true := by decide
  have hin2 : inquestlaw33_in.f [⟨3, 2, 0⟩, ⟨5, 1, 0⟩, ⟨4, 2, 2⟩] 3 5 4 = some true := by decide
  have HWF := Aside0.mk hwf
  have HTH := Aside0.mk hth
  have H1 := Aside0.mk hin1
  have H2 := Aside0.mk hin2
  clear hwf hth hin1 hin2
  have hl3 : three.length = 3 := rfl
  go_enter Try.func34, Try.ntmps34
  go_wp2_with fail
  refine (inquestlaw33_three.calls three w HTH.out).mono ?_
  rintro e w1 ⟨v, rfl, hv, hb1⟩
  obtain ⟨A1, c1, rfl, hlc1, hC1⟩ := Kd.R_reads hv
  have HB1 := Aside0.mk hb1
  have HC1 := Aside0.mk hC1
  clear hv hb1 hC1
  go_wp2_with fail
  refine (Rank_c A1 three c1 2 2 false w1 HC1.out (by decide) HWF.out).mono ?_
  rintro e w2 hp
  obtain ⟨l2, A2, c2, hl2, rfl, hC2, hlc2, hb2⟩ := ranks_three false w1 e w2 hp
  have HB2 := Aside0.mk (below_step HB1.out hb2)
  have HC2 := Aside0.mk hC2
  have HL2 := Aside0.mk hl2
  clear hp hC2 hb2 hl2 HC1 HB1
  go_wp2_with fail
  refine (inquestlaw33_three.calls three w2 HTH.out).mono ?_
  rintro e w3 ⟨v, rfl, hv, hb3⟩
  obtain ⟨A3, c3, rfl, hlc3, hC3⟩ := Kd.R_reads hv
  have HB3 := Aside0.mk (below_step HB2.out hb3)
  have HC3 := Aside0.mk hC3
  have HC2' := Aside0.mk (Kd.C_below HC2.out hb3)
  clear hv hb3 hC3 HC2
  go_wp2_with fail
  refine (Rank_c A3 three c3 2 2 true w3 HC3.out (by decide) HWF.out).mono ?_
  rintro e w4 hp
  obtain ⟨l4, A4, c4, hl4, rfl, hC4, hlc4, hb4⟩ := ranks_three true w3 e w4 hp
  have HB4 := Aside0.mk (below_step HB3.out hb4)
  have HC4 := Aside0.mk hC4
  have HL4 := Aside0.mk hl4
  have HC2 := Aside0.mk (Kd.C_below HC2'.out hb4)
  clear hp hC4 hb4 hl4 HC3 HB3 HC2'
  go_wp2_with fail
  refine (inquestlaw33_in.calls A2 c2 l2 3 4 5 true w4 HC2.out hlc2 (by rw [HL2.out]; exact H1.out)).mono ?_
  rintro e w5 ⟨rfl, n5, rfl⟩
  go_wp2_with fail
  refine (inquestlaw33_in.calls A4 c4 l4 3 5 4 true (w4.drewN n5) (Kd.C_drewN HC4.out _) hlc4 (by rw [HL4.out]; exact H2.out)).mono ?_
  rintro e w6 ⟨rfl, n6, rfl⟩
  go_wp2_with fail
  go_ret
  exact ⟨rfl, by repeat (first | exact HB4.out | apply pw_below_drewN)⟩
end Go.Proofs.Ythpnooookkpkaaa.F
namespace Go.Proofs.Ythpnooookkpkaaa.F
open Go.Shelf Go.RowKit Go.Lib Go.Sort Go.Maps Go.Proofs.YthpnooookkpkaaaW.PrintWords Go.Proofs.YthpnooookkpkaaaW.PrintLast Go.Proofs.YthpnooookkpkaaaW.PrintMore
attribute [local go_sem] max2_int min2_int max_two min_two max_three min_three max_four min_four

theorem fr_facts (A B : Int × Int × Int → Int) (hB : ∀ x, 0 < B x) (a b c : Int × Int × Int) :
    (-1 ≤ frC A B a b ∧ frC A B a b ≤ 1) ∧ frC A B b a = -frC A B a b ∧ frC A B a a = 0 ∧
    (0 ≤ frC A B a b → 0 ≤ frC A B b c → frC A B a b ≤ frC A B a c ∧ frC A B b c ≤ frC A B a c) ∧
    (frC A B a b ≤ 0 → frC A B b c ≤ 0 → frC A B a c ≤ frC A B a b ∧ frC A B a c ≤ frC A B b c) := by
  refine ⟨cmpI_le _ _, cmpI_neg _ _, (cmpI_eq _ _).mpr rfl, ?_, ?_⟩
  all_goals
    intro h1 h2
    unfold frC at *
    have t1 := @fr_le (A a) (B a) (A b) (B b) (A c) (B c) (hB a) (hB b) (hB c)
    have t2 := @fr_le (A a) (B a) (A c) (B c) (A b) (B b) (hB a) (hB c) (hB b)
    have t3 := @fr_le (A b) (B b) (A a) (B a) (A c) (B c) (hB b) (hB a) (hB c)
    have t4 := @fr_le (A b) (B b) (A c) (B c) (A a) (B a) (hB b) (hB c) (hB a)
    have t5 := @fr_le (A c) (B c) (A a) (B a) (A b) (B b) (hB c) (hB a) (hB b)
    have t6 := @fr_le (A c) (B c) (A b) (B b) (A a) (B a) (hB c) (hB b) (hB a)
    have v1 := cmpI_val (A a * B b) (A b * B a)
    have v2 := cmpI_val (A b * B c) (A c * B b)
    have v3 := cmpI_val (A a * B c) (A c * B a)
    omega
/-- the three boxed suspects, in a world grown since -/
def Three (w3 : World) (n : Nat) (a b c : Int × Int × Int) (W : World) : Prop := Gr w3 W ∧ n + 3 ≤ W.heap.size ∧ W.cell? ⟨n, 0, none⟩ = some (.int .u32 a.1) ∧ W.cell? ⟨n, 1, none⟩ = some (.int .i64 a.2.1) ∧ W.cell? ⟨n, 2, none⟩ = some (.int .i64 a.2.2) ∧ W.cell? ⟨n + 1, 0, none⟩ = some (.int .u32 b.1) ∧ W.cell? ⟨n + 1, 1, none⟩ = some (.int .i64 b.2.1) ∧ W.cell? ⟨n + 1, 2, none⟩ = some (.int .i64 b.2.2) ∧ W.cell? ⟨n + 1 + 1, 0, none⟩ = some (.int .u32 c.1) ∧ W.cell? ⟨n + 1 + 1, 1, none⟩ = some (.int .i64 c.2.1) ∧ W.cell? ⟨n + 1 + 1, 2, none⟩ = some (.int .i64 c.2.2)
theorem Three.grown {w3 W W' : World} {n : Nat} {a b c : Int × Int × Int} (h : Three w3 n a b c W) (g : Gr W W') : Three w3 n a b c W' := by
  obtain ⟨h1, h2, c0, c1, c2, d0, d1, d2, e0, e1, e2⟩ := h
  exact ⟨h1.trans g, Nat.le_trans h2 g.size, g.cell c0 (by show n < _; omega), g.cell c1 (by show n < _; omega), g.cell c2 (by show n < _; omega), g.cell d0 (by show n + 1 < _; omega), g.cell d1 (by show n + 1 < _; omega), g.cell d2 (by show n + 1 < _; omega), g.cell e0 (by show n + 1 + 1 < _; omega), g.cell e1 (by show n + 1 + 1 < _; omega), g.cell e2 (by show n + 1 + 1 < _; omega)⟩
set_option maxRecDepth 100000 in
set_option maxHeartbeats 4000000 in
theorem SuspectOrders_c (a b c : Int × Int × Int) (f p : Int) (w : World) :
    Calls Try.prog 6 #[.agg (encS a).toArray, .agg (encS b).toArray, .agg (encS c).toArray, .int .i64 f, .int .i64 p] w fun e w' => e = .returned (.bool true) ∧ Below w.heap.size w w' := by
  have fn := fr_facts nA nB nB_pos a b c
  have fr := fr_facts (rA (wth f) (wth p)) (rB (wth f) (wth p)) (rB_pos _ _ (wth_le f) (wth_le p)) a b c
  rw [← nearC_fr] at fn
  rw [← rateC_fr] at fr
  have nab := fun W => Near_c a b W
  have nbc := fun W => Near_c b c W
  have nac := fun W => Near_c a c W
  have nba := fun W => Near_c b a W
  have naa := fun W => Near_c a a W
  have rab := fun W => Rate_c a b f p W
  have rbc := fun W => Rate_c b c f p W
  have rac := fun W => Rate_c a c f p W
  have rba := fun W => Rate_c b a f p W
  have raa := fun W => Rate_c a a f p W
  rw [fn.2.1] at nba
  rw [fn.2.2.1] at naa
  rw [fr.2.1] at rba
  rw [fr.2.2.1] at raa
  obtain ⟨⟨fx1, fx2⟩, _, _, ft1, ft2⟩ := fn
  obtain ⟨⟨fu1, fu2⟩, _, _, fs1, _⟩ := fr
  generalize nearC a b = x at *
  generalize nearC b c = y at *
  generalize nearC a c = z at *
  generalize rateC (wth f) (wth p) a b = u at *
  generalize rateC (wth f) (wth p) b c = v at *
  generalize rateC (wth f) (wth p) a c = s at *
  obtain ⟨a0, a1, a2⟩ := a
  obtain ⟨b0, b1, b2⟩ := b
  obtain ⟨c0, c1, c2⟩ := c
  simp only [encS] at nab nbc nac nba naa rab rbc rac rba raa ⊢
  have NAB := Aside0.mk nab
  have NBC := Aside0.mk nbc
  have NAC := Aside0.mk nac
  have NBA := Aside0.mk nba
  have NAA := Aside0.mk naa
  have RAB := Aside0.mk rab
  have RBC := Aside0.mk rbc
  have RAC := Aside0.mk rac
  have RBA := Aside0.mk rba
  have RAA := Aside0.mk raa
  clear nab nbc nac nba naa rab rbc rac rba raa
  have FT1 := Aside0.mk ft1
  have FT2 := Aside0.mk ft2
  have FS1 := Aside0.mk fs1
  clear ft1 ft2 fs1
  have wx : IntKind.i64.wrap (-x) = -x := wrap64 _ (by omega)
  have wu : IntKind.i64.wrap (-u) = -u := wrap64 _ (by omega)
  have wxx : IntKind.i64.wrap x = x := wrap64 _ (by omega)
  have wuu : IntKind.i64.wrap u = u := wrap64 _ (by omega)
  have xx : decide (x < -1) = false := decide_eq_false (by omega)
  have xy : decide (1 < x) = false := decide_eq_false (by omega)
  have uu : decide (u < -1) = false := decide_eq_false (by omega)
  have uv : decide (1 < u) = false := decide_eq_false (by omega)
  clear fx1 fx2 fu1 fu2
  go_enter Try.func6, Try.ntmps6
  go_wp2_with fail
  obtain ⟨w3, hw3⟩ : ∃ w3 : World, w3 = ((w.alloc (Obj.cells #[.int .u32 a0, .int .i64 a1, .int .i64 a2] 46)).alloc (Obj.cells #[.int .u32 b0, .int .i64 b1, .int .i64 b2] 46)).alloc (Obj.cells #[.int .u32 c0, .int .i64 c1, .int .i64 c2] 46) := ⟨_, rfl⟩
  rw [← hw3]
  have HG := Aside0.mk (show Gr w w3 by rw [hw3]; exact (((Gr.refl w).alloc _).alloc _).alloc _)
  have T1 : Aside0 (Three w3 w.heap.size (a0, a1, a2) (b0, b1, b2) (c0, c1, c2) w3) := by
    refine ⟨⟨Gr.refl _, ?_, ?_, ?_, ?_, ?_, ?_, ?_, ?_, ?_, ?_⟩⟩ <;> rw [hw3] <;> go_simp
  clear hw3
  obtain ⟨n, hn⟩ : ∃ n : Nat, n = w.heap.size := ⟨_, rfl⟩
  rw [← hn] at T1 ⊢
  clear hn
  go_region_held3 (fun W => Gr w3 W ∧ n + 3 ≤ W.heap.size ∧ W.cell? ⟨n, 0, none⟩ = some (.int .u32 a0) ∧ W.cell? ⟨n, 1, none⟩ = some (.int .i64 a1) ∧ W.cell? ⟨n, 2, none⟩ = some (.int .i64 a2) ∧ W.cell? ⟨n + 1, 0, none⟩ = some (.int .u32 b0) ∧ W.cell? ⟨n + 1, 1, none⟩ = some (.int .i64 b1) ∧ W.cell? ⟨n + 1, 2, none⟩ = some (.int .i64 b2) ∧ W.cell? ⟨n + 1 + 1, 0, none⟩ = some (.int .u32 c0) ∧ W.cell? ⟨n + 1 + 1, 1, none⟩ = some (.int .i64 c1) ∧ W.cell? ⟨n + 1 + 1, 2, none⟩ = some (.int .i64 c2)) (first | exact T1.out | exact T1.out.grown ((Gr.refl _).drew))
    (first
      | (go_at_call_of 32 (Value.agg #[.int .u32 a0, .int .i64 a1, .int .i64 a2]); go_at_call_of 32 (Value.agg #[.int .u32 b0, .int .i64 b1, .int .i64 b2]); refine (NAB.out _).mono ?_; rintro e w' ⟨rfl, hg⟩; have T1 : Aside0 (Three w3 n (a0, a1, a2) (b0, b1, b2) (c0, c1, c2) w') := (by first | exact ⟨T1.out.grown hg⟩ | exact ⟨T1.out.grown ((Gr.refl _).drew.trans hg)⟩); clear hg)
      | (go_at_call_of 32 (Value.agg #[.int .u32 b0, .int .i64 b1, .int .i64 b2]); go_at_call_of 32 (Value.agg #[.int .u32 c0, .int .i64 c1, .int .i64 c2]); refine (NBC.out _).mono ?_; rintro e w' ⟨rfl, hg⟩; have T1 : Aside0 (Three w3 n (a0, a1, a2) (b0, b1, b2) (c0, c1, c2) w') := (by first | exact ⟨T1.out.grown hg⟩ | exact ⟨T1.out.grown ((Gr.refl _).drew.trans hg)⟩); clear hg)
      | (go_at_call_of 32 (Value.agg #[.int .u32 a0, .int .i64 a1, .int .i64 a2]); go_at_call_of 32 (Value.agg #[.int .u32 c0, .int .i64 c1, .int .i64 c2]); refine (NAC.out _).mono ?_; rintro e w' ⟨rfl, hg⟩; have T1 : Aside0 (Three w3 n (a0, a1, a2) (b0, b1, b2) (c0, c1, c2) w') := (by first | exact ⟨T1.out.grown hg⟩ | exact ⟨T1.out.grown ((Gr.refl _).drew.trans hg)⟩); clear hg))
  go_wp2_with fail
  go_region_held3 (fun W => Gr w3 W ∧ n + 3 ≤ W.heap.size ∧ W.cell? ⟨n, 0, none⟩ = some (.int .u32 a0) ∧ W.cell? ⟨n, 1, none⟩ = some (.int .i64 a1) ∧ W.cell? ⟨n, 2, none⟩ = some (.int .i64 a2) ∧ W.cell? ⟨n + 1, 0, none⟩ = some (.int .u32 b0) ∧ W.cell? ⟨n + 1, 1, none⟩ = some (.int .i64 b1) ∧ W.cell? ⟨n + 1, 2, none⟩ = some (.int .i64 b2) ∧ W.cell? ⟨n + 1 + 1, 0, none⟩ = some (.int .u32 c0) ∧ W.cell? ⟨n + 1 + 1, 1, none⟩ = some (.int .i64 c1) ∧ W.cell? ⟨n + 1 + 1, 2, none⟩ = some (.int .i64 c2)) (first | exact T1.out | exact T1.out.grown ((Gr.refl _).drew))
    (first
      | (go_at_call_of 33 (Value.agg #[.int .u32 a0, .int .i64 a1, .int .i64 a2]); go_at_call_of 33 (Value.agg #[.int .u32 b0, .int .i64 b1, .int .i64 b2]); refine (RAB.out _).mono ?_; rintro e w' ⟨rfl, hg⟩; have T1 : Aside0 (Three w3 n (a0, a1, a2) (b0, b1, b2) (c0, c1, c2) w') := (by first | exact ⟨T1.out.grown hg⟩ | exact ⟨T1.out.grown ((Gr.refl _).drew.trans hg)⟩); clear hg)
      | (go_at_call_of 33 (Value.agg #[.int .u32 b0, .int .i64 b1, .int .i64 b2]); go_at_call_of 33 (Value.agg #[.int .u32 c0, .int .i64 c1, .int .i64 c2]); refine (RBC.out _).mono ?_; rintro e w' ⟨rfl, hg⟩; have T1 : Aside0 (Three w3 n (a0, a1, a2) (b0, b1, b2) (c0, c1, c2) w') := (by first | exact ⟨T1.out.grown hg⟩ | exact ⟨T1.out.grown ((Gr.refl _).drew.trans hg)⟩); clear hg)
      | (go_at_call_of 33 (Value.agg #[.int .u32 a0, .int .i64 a1, .int .i64 a2]); go_at_call_of 33 (Value.agg #[.int .u32 c0, .int .i64 c1, .int .i64 c2]); refine (RAC.out _).mono ?_; rintro e w' ⟨rfl, hg⟩; have T1 : Aside0 (Three w3 n (a0, a1, a2) (b0, b1, b2) (c0, c1, c2) w') := (by first | exact ⟨T1.out.grown hg⟩ | exact ⟨T1.out.grown ((Gr.refl _).drew.trans hg)⟩); clear hg))
  obtain ⟨s0, s1, s2, s3, s4, s5, s6, s7, s8, s9, s10⟩ := T1.out
  simp only at s2 s3 s4 s5 s6 s7 s8 s9 s10
  go_wp2_with fail
  refine (NBA.out _).mono ?_
  rintro e W ⟨rfl, hg⟩
  have T1 := Aside0.mk (T1.out.grown hg)
  clear s0 s1 s2 s3 s4 s5 s6 s7 s8 s9 s10 hg
  obtain ⟨s0, s1, s2, s3, s4, s5, s6, s7, s8, s9, s10⟩ := T1.out
  simp only at s2 s3 s4 s5 s6 s7 s8 s9 s10
  go_wp2_with fail
  refine (RBA.out _).mono ?_
  rintro e W ⟨rfl, hg⟩
  have T1 := Aside0.mk (T1.out.grown hg)
  clear s0 s1 s2 s3 s4 s5 s6 s7 s8 s9 s10 hg
  obtain ⟨s0, s1, s2, s3, s4, s5, s6, s7, s8, s9, s10⟩ := T1.out
  simp only at s2 s3 s4 s5 s6 s7 s8 s9 s10
  go_wp2_with fail
  refine (NAA.out _).mono ?_
  rintro e W ⟨rfl, hg⟩
  have T1 := Aside0.mk (T1.out.grown hg)
  clear s0 s1 s2 s3 s4 s5 s6 s7 s8 s9 s10 hg
  obtain ⟨s0, s1, s2, s3, s4, s5, s6, s7, s8, s9, s10⟩ := T1.out
  simp only at s2 s3 s4 s5 s6 s7 s8 s9 s10
  go_wp2_with fail
  refine (RAA.out _).mono ?_
  rintro e W ⟨rfl, hg⟩
  have T1 := Aside0.mk (T1.out.grown hg)
  clear s0 s1 s2 s3 s4 s5 s6 s7 s8 s9 s10 hg
  have HL := Aside0.mk (lives33_c W)
  have hB := Aside0.mk (HG.out.trans T1.out.1)
  obtain ⟨mx, hmx⟩ : ∃ m : Int, (if x < y then y else x) = m := ⟨_, rfl⟩
  obtain ⟨mu, hmu⟩ : ∃ m : Int, (if u < v then v else u) = m := ⟨_, rfl⟩
  obtain ⟨mn, hmn⟩ : ∃ m : Int, (if y < x then y else x) = m := ⟨_, rfl⟩
  have d1 : x < 0 ∨ (¬ x < 0 ∧ y < 0) ∨ (¬ x < 0 ∧ ¬ y < 0 ∧ mx ≤ z) := by
    have := FT1.out
    rw [← hmx]
    split <;> omega
  have d2 : u < 0 ∨ (¬ u < 0 ∧ v < 0) ∨ (¬ u < 0 ∧ ¬ v < 0 ∧ mu ≤ s) := by
    have := FS1.out
    rw [← hmu]
    split <;> omega
  have d3 : 0 < x ∨ (¬ 0 < x ∧ 0 < y) ∨ (¬ 0 < x ∧ ¬ 0 < y ∧ z ≤ mn) := by
    have := FT2.out
    rw [← hmn]
    split <;> omega
  clear FT1 FT2 FS1 NAB NBC NAC NBA NAA RAB RBC RAC RBA RAA T1 HG xx xy uu uv wx wu wxx wuu
  have D1 : decide (x < 0) = true ∨ (decide (x < 0) = false ∧ decide (y < 0) = true) ∨ (decide (x < 0) = false ∧ decide (y < 0) = false ∧ decide (mx ≤ z) = true) := by
    simp only [decide_eq_true_iff, decide_eq_false_iff_not]; exact d1
  have D2 : decide (u < 0) = true ∨ (decide (u < 0) = false ∧ decide (v < 0) = true) ∨ (decide (u < 0) = false ∧ decide (v < 0) = false ∧ decide (mu ≤ s) = true) := by
    simp only [decide_eq_true_iff, decide_eq_false_iff_not]; exact d2
  have D3 : decide (0 < x) = true ∨ (decide (0 < x) = false ∧ decide (0 < y) = true) ∨ (decide (0 < x) = false ∧ decide (0 < y) = false ∧ decide (z ≤ mn) = true) := by
    simp only [decide_eq_true_iff, decide_eq_false_iff_not]; exact d3
  clear d1 d2 d3
  rcases D1 with d1 | ⟨d1, d1'⟩ | ⟨d1, d1', d1''⟩ <;> rcases D2 with d2 | ⟨d2, d2'⟩ | ⟨d2, d2', d2''⟩ <;> rcases D3 with d3 | ⟨d3, d3'⟩ | ⟨d3, d3', d3''⟩
  all_goals
      (go_wp2_with fail
       refine HL.out.mono ?_
       rintro e W2 ⟨rfl, hb2⟩
       have HB2 := Aside0.mk (below_step hB.out.below hb2)
       clear hb2
       go_wp2_with fail
       go_ret
       exact ⟨rfl, HB2.out⟩)
end Go.Proofs.Ythpnooookkpkaaa.F
namespace Go.Proofs.Ythpnooookkpkaaa.F
open Go.RowKit Go.Maps Go.MapKept Go.ChangeMaps

/-- 'm[k]++' laid out: the entry is made or found, and then stored into by its stamp -/
theorem entry_law {H : Type} {P : Program} {k e t : TypeId} {q : IntKind} {w : World} {b n : Nat} {D : DataW H} (K : Keyed P k) (ht : P.underlying t = some (.map k e)) (he : P.underlying e = some (.int q))
    (hz : ∀ w : World, (zeroValue e).run P w = .ok (.int q 0) w) (hown : w.ownsMap P k (plainElem P e) b n D) (hn : n < maxLen) {key : Value} {kl : Lit} (hkey : keyOf P k key = some kl) :
    ∃ (c st : Int) (w1 : World), D.atKey kl (.lit (.int q 0)) = .lit (.int q c) ∧ (Lit.int q c).wf = true ∧
      (Instr.lookup t (.map (some b)) key false).run P w = .ok (.int q c) w ∧
      (Instr.mapEntry t (.map (some b)) key).run P w = .ok (.tuple #[.int q c, .int .i64 st]) w1 ∧ w.grownBy w1 (some b) ∧
      (Instr.lookup t (.map (some b)) key false).run P w1 = .ok (.int q c) w1 ∧
      ∀ v, (Lit.int q v).wf = true → ∃ w2, (Instr.entryStore t (.map (some b)) (.int .i64 st) (.int q v)).run P w1 = .ok () w2 ∧ w2.ownsMap P k (plainElem P e) b (n + 1) (D.put kl (.lit (.int q v))) ∧ w.grownBy w2 (some b) := by
  obtain ⟨c, hrun, hat, hwc⟩ := hown.lookup_int K ht he (hz w) hkey
  obtain ⟨es, clock, hb, F, hs, hD⟩ := hown
  have hown : w.ownsMap P k (plainElem P e) b n D := ⟨es, clock, hb, F, hs, hD⟩
  rcases K.find w hkey es.toList F.keys with ⟨h1, h2⟩ | ⟨j, e0, h1, h2, h3⟩
  · -- no entry yet
    have hc : c = 0 := by
      simp [Instr.lookup, run_underlying ht, MapKept.run_getObj_map hb, K.check w _ hkey, h1, hz w, Result.andThen] at hrun
      exact hrun.symm
    subst hc
    have hw0 : (Lit.int q 0).wf = true := by cases q <;> decide
    obtain ⟨w1, hu, ho1, hg1⟩ := hown.update (R := plainElem P e) K ht hn hkey (plainElem_int he hw0)
    have hw1 : w1 = setBlock w b (.map (es.push ⟨key, .int q 0, clock⟩) (clock + 1)) := by
      simp [Instr.mapUpdate, run_underlying ht, MapKept.run_getObj_map hb, K.check w false hkey, h1, MapKept.run_setObj_map _ hb, Result.andThen] at hu
      rw [← hu]; rfl
    have hb1 : w1.heap[b]? = some (.map (es.push ⟨key, .int q 0, clock⟩) (clock + 1)) := by rw [hw1]; exact heap_setBlock_same hb _
    refine ⟨0, clock, w1, hat, hwc, hrun, ?_, hg1, ?_, ?_⟩
    · simp [Instr.mapEntry, run_underlying ht, MapKept.run_getObj_map hb, K.check w false hkey, h1, hz w, MapKept.run_setObj_map _ hb, Result.andThen, setBlock, hw1]
      rfl
    · obtain ⟨c', hrun', hat', _⟩ := ho1.lookup_int K ht he (hz w1) hkey
      rw [atKey_put_same hown.isMap (K.key hkey)] at hat'
      injection hat' with hat'
      injection hat' with _ hat'
      rw [hrun', ← hat']
    · intro v hv
      obtain ⟨w2, hu2, ho2, hg2⟩ := hown.update (R := plainElem P e) K ht hn hkey (plainElem_int he hv)
      refine ⟨w2, ?_, ho2, hg2⟩
      have hfi : (es.push ⟨key, .int q 0, clock⟩).findIdx? (fun x => (x.born : Int) == (clock : Int)) = some es.size := by
        have h0 : es.findIdx? (fun x => (x.born : Int) == (clock : Int)) = none := by
          rw [Array.findIdx?_eq_none_iff]
          intro x hx
          have := F.stamped.1 x (by simpa using hx)
          simp
          omega
        rw [Array.findIdx?_push, h0]
        simp
      simp [Instr.mapUpdate, run_underlying ht, MapKept.run_getObj_map hb, K.check w false hkey, h1, MapKept.run_setObj_map _ hb, Result.andThen] at hu2
      simp [Instr.entryStore, MapKept.run_getObj_map hb1, asInt, asIntOf, MapKept.run_setObj_map _ hb1, Result.andThen, hfi]
      rw [← hu2, hw1]
      unfold setBlock
      simp only [Array.setIfInBounds_setIfInBounds]
      congr 2
      congr 1
      apply Array.ext_getElem?
      intro i
      rw [Array.getElem?_modify, Array.getElem?_push, Array.getElem?_push]
      by_cases h : i = es.size
      · subst h; simp
      · rw [if_neg h, if_neg h, if_neg (fun hh => h hh.symm)]
  · have hj : es[j]? = some e0 := by simpa using h2
    have hc : e0.val = .int q c := by
      simp [Instr.lookup, run_underlying ht, MapKept.run_getObj_map hb, K.check w _ hkey, h1, Result.andThen] at hrun
      exact hrun
    have hes : es.modify j (fun x => { x with key := key }) = es := by
      apply Array.ext_getElem?
      intro i
      rw [Array.getElem?_modify]
      by_cases h : j = i
      · subst h
        rw [if_pos rfl, hj]
        simp [← h3]
      · rw [if_neg h]
    have hset : ({ w with heap := w.heap.setIfInBounds b (.map es clock) } : World) = w := by
      have : w.heap.setIfInBounds b (.map es clock) = w.heap := by
        apply Array.ext_getElem?
        intro i
        rw [Array.getElem?_setIfInBounds]
        by_cases h : b = i
        · subst h
          rw [if_pos rfl, hb]
          have := (Array.getElem?_eq_some_iff.mp hb).1
          simp [this]
        · rw [if_neg h]
      rw [this]
    refine ⟨c, e0.born, w, hat, hwc, hrun, ?_, ?_, hrun, ?_⟩
    · simp [Instr.mapEntry, run_underlying ht, MapKept.run_getObj_map hb, K.check w false hkey, h1, hj, h3, K.stays w hkey, MapKept.run_setObj_map _ hb, Result.andThen, hes, hset, hc]
      rfl
    · exact World.grownBy.refl _ _
    · intro v hv
      obtain ⟨w2, hu2, ho2, hg2⟩ := hown.update (R := plainElem P e) K ht hn hkey (plainElem_int he hv)
      refine ⟨w2, ?_, ho2, hg2⟩
      have hfi : es.findIdx? (fun x => (x.born : Int) == (e0.born : Int)) = some j := by
        rw [Array.findIdx?_eq_some_iff_getElem]
        obtain ⟨hjl, hje⟩ := Array.getElem?_eq_some_iff.mp hj
        refine ⟨hjl, by rw [hje]; simp, fun i hi => ?_⟩
        intro hb'
        have hnd := F.stamped.2.1
        rw [List.nodup_iff_pairwise_ne, List.pairwise_iff_getElem] at hnd
        have := hnd i j (by simp; omega) (by simpa using hjl) hi
        simp at this hb'
        rw [hje] at this
        exact this (by omega)
      simp [Instr.mapUpdate, run_underlying ht, MapKept.run_getObj_map hb, K.check w false hkey, h1, hj, h3, K.stays w hkey, MapKept.run_setObj_map _ hb, Result.andThen] at hu2
      simp [Instr.entryStore, MapKept.run_getObj_map hb, asInt, asIntOf, MapKept.run_setObj_map _ hb, Result.andThen, hfi]
      rw [← hu2]
      congr 2
      congr 1
      apply Array.ext_getElem?
      intro i
      rw [Array.getElem?_modify, Array.getElem?_modify]
      by_cases h : j = i
      · subst h
        rw [if_pos rfl, if_pos rfl, hj]
        simp [← h3]
      · rw [if_neg h, if_neg h]
end Go.Proofs.Ythpnooookkpkaaa.F
namespace Go.Proofs.Ythpnooookkpkaaa.F
open Go.Shelf Go.RowKit Go.Lib Go.Sort Go.Maps Go.Proofs.YthpnooookkpkaaaW.PrintWords Go.Proofs.YthpnooookkpkaaaW.PrintLast Go.Proofs.YthpnooookkpkaaaW.PrintMore

theorem laidOut33 : laidOutB Try.prog = true := by kernel_rfl
theorem row46 : (46 : TypeId) < Try.prog.types.size := of_decide_eq_true (by kernel_rfl)
theorem wide46 : (match Try.prog.underlying 46 with | some (.array _ _) | some (.struct _) => true | _ => false) = true := by rw [Try.underlying46]
set_option maxRecDepth 100000 in
theorem law46 : Keyed Try.prog 46 := Keyed.of_law (deep_law_laid laidOut33 (m := 2) (by omega) row46 (by kernel_rfl) wide46)
set_option maxRecDepth 100000 in
theorem key46 (v f p : Int) (hv : (Lit.int .u32 v).wf = true) (hf : (Lit.int .i64 f).wf = true) (hp : (Lit.int .i64 p).wf = true) : ∃ kl, keyOf Try.prog 46 (.agg #[.int .u32 v, .int .i64 f, .int .i64 p]) = some kl := by
  have h1 : Try.prog.keyType 46 = true := by kernel_rfl
  have h2 : Try.prog.cellsOf 46 = 3 := by kernel_rfl
  have h3 : Try.prog.cellsOf 44 = 1 := by kernel_rfl
  have h4 : Try.prog.cellsOf 3 = 1 := by kernel_rfl
  have h5 : (Value.agg #[.int .u32 v, .int .i64 f, .int .i64 p]).formed Try.prog 46 = true := by simp [Value.formed, Try.underlying46, h2]
  have h6 : ∀ s : Nat, 46 < s → ∃ kl, (if (Try.prog.keyType 46 && (Value.agg #[.int .u32 v, .int .i64 f, .int .i64 p]).formed Try.prog 46) = true then (Try.prog.keyLits (s + 1) 46 (Value.agg #[.int .u32 v, .int .i64 f, .int .i64 p]).cells.toList).map (fun ls => Lit.string (keyBytes ls)) else none) = some kl := by
    intro s hs
    obtain ⟨m, rfl⟩ : ∃ m, s = m + 1 := ⟨s - 1, by omega⟩
    rw [h1, h5]
    simp [Program.keyLits, Try.underlying46, Try.underlying44, Try.underlying3, h2, h3, h4, Value.cells, hv, hf, hp]
  have h7 := h6 _ row46
  unfold keyOf
  rw [Try.underlying46]
  exact h7
end Go.Proofs.Ythpnooookkpkaaa.F
namespace Go.Proofs.Ythpnooookkpkaaa.F
open Go.Shelf Go.RowKit Go.Lib Go.Sort

theorem frC_nonneg (A B : Int × Int × Int → Int) (x y : Int × Int × Int) (h : ltOf (cfM (frC A B)) y x = false) : 0 ≤ frC A B x y ∧ (frC A B x y = 0 → x.1 ≤ y.1) := by
  rw [Bool.eq_false_iff, ne_eq, lt_frC] at h
  have h1 := cmpI_val (A x * B y) (A y * B x)
  unfold frC
  omega
theorem frC_nonpos (A B : Int × Int × Int → Int) (x y : Int × Int × Int) (h : A x * B y ≤ A y * B x) : frC A B x y ≤ 0 := by
  have h1 := cmpI_val (A x * B y) (A y * B x)
  unfold frC
  omega
theorem nA_eq {f p v : Int} (hf : 0 ≤ f ∧ f ≤ 64) (hp : 0 ≤ p ∧ p ≤ 64) : nA (v, f, p) = (if f + p = 0 then 0 else f * f) ∧ nB (v, f, p) = (if f + p = 0 then 1 else f + p) := by
  simp only [nA, nB, wth_id hf, wth_id hp, ratA, ratB, and_self]
theorem near_top {F v f p v' : Int} (hF : 0 < F ∧ F ≤ 64) (hf : 0 ≤ f ∧ f ≤ F) (hp : 0 ≤ p ∧ p ≤ 64) : nearC (v, f, p) (v', F, 0) ≤ 0 := by
  rw [nearC_fr]
  apply frC_nonpos
  obtain ⟨e1, e2⟩ := @nA_eq f p v ⟨hf.1, by omega⟩ hp
  obtain ⟨e3, e4⟩ := @nA_eq F 0 v' ⟨by omega, hF.2⟩ ⟨by omega, by omega⟩
  have e3' : nA (v', F, 0) = F * F := by rw [e3, if_neg (by omega)]
  have e4' : nB (v', F, 0) = F := by rw [e4, if_neg (by omega), Int.add_zero]
  rw [e3', e4']
  by_cases hz : f + p = 0
  · rw [e1, e2, if_pos hz, if_pos hz, Int.zero_mul, Int.mul_one]; exact Int.mul_nonneg (by omega) (by omega)
  · rw [e1, e2, if_neg hz, if_neg hz]
    have k1 : f * f ≤ F * f := Int.mul_le_mul_of_nonneg_right hf.2 hf.1
    have k2 : F * f ≤ F * (f + p) := Int.mul_le_mul_of_nonneg_left (by omega) (by omega)
    have k3 : f * f * F ≤ F * (f + p) * F := Int.mul_le_mul_of_nonneg_right (by omega) (by omega)
    have k4 : F * (f + p) * F = F * F * (f + p) := by rw [Int.mul_assoc, Int.mul_comm (f + p) F, ← Int.mul_assoc]
    omega
theorem rate_top {F P v f p v' : Int} (hF : 0 < F ∧ F ≤ 64) (hP : 0 ≤ P ∧ P ≤ 64) (hf : 0 ≤ f ∧ f ≤ F) (hp : 0 ≤ p ∧ p ≤ 64) : rateC F P (v, f, p) (v', F, 0) ≤ 0 := by
  rw [rateC_fr]
  apply frC_nonpos
  have hf' : 0 ≤ f ∧ f ≤ 64 := ⟨hf.1, by omega⟩
  have hF' : 0 ≤ F ∧ F ≤ 64 := ⟨by omega, hF.2⟩
  have h0 : wth 0 = 0 := wth_id ⟨by omega, by omega⟩
  have hF0 : ¬ F = 0 := by omega
  by_cases hP0 : P = 0
  · subst hP0
    have a1 : rA F 0 (v', F, 0) = F := by simp [rA, rtA, rtB, wth_id hF', ratA, hF0]
    have b1 : rB F 0 (v', F, 0) = F := by simp [rB, rtB, wth_id hF', ratB, hF0]
    have a2 : rA F 0 (v, f, p) = f := by simp [rA, rtA, rtB, wth_id hf', ratA, hF0]; intro h; exact h.symm
    have b2 : rB F 0 (v, f, p) = if f = 0 then 1 else f := by simp [rB, rtB, wth_id hf', ratB, hF0]
    rw [a1, b1, a2, b2]
    split
    · rename_i h; rw [h]; simp; omega
    · rw [Int.mul_comm]; exact Int.le_refl _
  · have hFP : 0 < F * P := Int.mul_pos hF.1 (by omega)
    have hFPn : ¬ F * P = 0 := by omega
    have hFn : ¬ (F = 0 ∨ P = 0) := by omega
    have a1 : rA F P (v', F, 0) = F * P := by simp [rA, rtA, rtB, wth_id hF', ratA, hF0, hP0, h0]; omega
    have b1 : rB F P (v', F, 0) = F * P := by simp [rB, rtB, wth_id hF', ratB, hF0, hP0, h0]; omega
    have hf0 := hf.1
    have m1 : 0 ≤ f * P := Int.mul_nonneg hf.1 hP.1
    have m2 : 0 ≤ p * F := Int.mul_nonneg hp.1 hF'.1
    have a2 : rA F P (v, f, p) = f * P := by
      simp only [rA, rtA, rtB, wth_id hf', wth_id hp, ratA, if_neg hF0, if_neg hP0]
      split <;> omega
    have b2 : rB F P (v, f, p) = if f * P + p * F = 0 then 1 else f * P + p * F := by
      simp only [rB, rtB, wth_id hf', wth_id hp, ratB, if_neg hF0, if_neg hP0]
    rw [a1, b1, a2, b2]
    split
    · rename_i h
      have : f * P = 0 := by omega
      rw [this, Int.zero_mul, Int.mul_one]; omega
    · have k1 : f * P ≤ f * P + p * F := by omega
      rw [Int.mul_comm]
      exact Int.mul_le_mul_of_nonneg_left k1 (by omega)

/-! ## what is ranked -/
theorem toT_inj {x y : S46} (h : toT x = toT y) : x = y := by
  obtain ⟨a, b, c⟩ := x
  obtain ⟨a', b', c'⟩ := y
  simp only [toT, Prod.mk.injEq] at h
  obtain ⟨rfl, rfl, rfl⟩ := h
  rfl
theorem rd_mem (l : List S46) (i : Nat) (h : i < l.length) : rd_T46 l i = l[i] := by
  show l.getD i z46 = _
  rw [List.getD_eq_getElem?_getD, List.getElem?_eq_getElem h]
  rfl
/-- those that are ranked, each in its bounds, no variable twice -/
theorem ranked_good {byRate : Bool} {F P : Int} {l l' : List S46} (hok : RankOK F P l) (hr : Ranked byRate F P l l') :
    l'.length = l.length ∧ (∀ x ∈ l', goodS F P x) ∧ l'.Pairwise (fun x y => x.f0 ≠ y.f0) ∧ l'.Perm l := by
  have hlen : l'.length = l.length := by have := hr.1.length_eq; simpa using this
  have hperm : l'.Perm l := by
    have h := hr.1.map toS
    rw [List.map_map, List.map_map, show toS ∘ toT = id from rfl, List.map_id, List.map_id] at h
    exact h
  refine ⟨hlen, ?_, ?_, hperm⟩
  · intro x hx
    obtain ⟨i, hi, rfl⟩ := List.getElem_of_mem (hperm.subset hx)
    have := (hok.2 i hi).1
    rwa [rd_mem l i hi] at this
  · have h1 : l.Pairwise (fun x y => x.f0 ≠ y.f0) := by
      rw [List.pairwise_iff_getElem]
      intro i j hi hj hij
      have := (hok.2 j hj).2 i hij
      rwa [rd_mem l i hi, rd_mem l j hj] at this
    exact (hperm.symm.pairwise_iff (fun {a b} (h : a.f0 ≠ b.f0) => h.symm)).mp h1
theorem arrT_get (l : List S46) (i : Nat) (h : i < l.length) : (arrT l)[i]! = toT l[i] := by
  have hsz : (arrT l).size = l.length := by simp [arrT]
  rw [getElem!_pos _ _ (by rw [hsz]; exact h)]
  simp [arrT]
theorem mOf_nonneg {byRate : Bool} {F P : Int} {l l' : List S46} (hr : Ranked byRate F P l l') {i j : Nat} (hij : i < j) (hj : j < l'.length) :
    0 ≤ mOf byRate F P (toT l'[i]) (toT l'[j]) ∧ (mOf byRate F P (toT l'[i]) (toT l'[j]) = 0 → l'[i].f0 ≤ l'[j].f0) := by
  have h := hr.2 i j (Nat.zero_le _) hij hj
  rw [arrT_get l' i (by omega), arrT_get l' j hj] at h
  cases byRate
  · exact frC_nonneg nA nB _ _ h
  · exact frC_nonneg (rA F P) (rB F P) _ _ h
/-- the next one is no more suspected; as much, and it stands behind by its variable -/
theorem rank_next {byRate : Bool} {F P : Int} {l l' : List S46} (hok : RankOK F P l) (hr : Ranked byRate F P l l') {i j : Nat} (hij : i < j) (hj : j < l'.length) :
    0 ≤ mOf byRate F P (toT l'[i]) (toT l'[j]) ∧ (mOf byRate F P (toT l'[i]) (toT l'[j]) = 0 → l'[i].f0 < l'[j].f0) := by
  obtain ⟨h1, h2⟩ := mOf_nonneg hr hij hj
  obtain ⟨_, _, hp, _⟩ := ranked_good hok hr
  rw [List.pairwise_iff_getElem] at hp
  have := hp i j (by omega) hj hij
  exact ⟨h1, fun h => by have := h2 h; omega⟩
/-- what stirred in all that fail, and in none else, is as much suspected as the first -/
theorem rank_top {byRate : Bool} {F P : Int} {l l' : List S46} (hok : RankOK F P l) (hr : Ranked byRate F P l l') {i : Nat} (hi : i < l'.length) (hF : 0 < F) (h1 : l'[i].f1 = F) (h2 : l'[i].f2 = 0) :
    mOf byRate F P (toT (l'[0]'(by omega))) (toT l'[i]) = 0 := by
  obtain ⟨_, hg, _, _⟩ := ranked_good hok hr
  obtain ⟨⟨g1, g2, g3, g4⟩, _⟩ := hok
  have hx := hg _ (List.getElem_mem (show 0 < l'.length by omega))
  have hle : mOf byRate F P (toT (l'[0]'(by omega))) (toT l'[i]) ≤ 0 := by
    obtain ⟨x1, x2, x3, x4⟩ := hx
    have e : toT l'[i] = (l'[i].f0, F, 0) := by unfold toT; rw [h1, h2]
    rw [e]
    cases byRate
    · exact near_top ⟨hF, g2⟩ ⟨x1, x3⟩ ⟨x2, by omega⟩
    · exact rate_top ⟨hF, g2⟩ ⟨g3, g4⟩ ⟨x1, x3⟩ ⟨x2, by omega⟩
  rcases Nat.eq_zero_or_pos i with rfl | h0
  · cases byRate
    · exact (cmpI_eq _ _).mpr rfl
    · exact (cmpI_eq _ _).mpr rfl
  · have := (mOf_nonneg hr h0 hi).1
    omega
end Go.Proofs.Ythpnooookkpkaaa.F
namespace Go.Proofs.Ythpnooookkpkaaa.F
open Go.Shelf Go.RowKit Go.Lib Go.Sort Go.Maps Go.Proofs.YthpnooookkpkaaaW.PrintWords Go.Proofs.YthpnooookkpkaaaW.PrintLast Go.Proofs.YthpnooookkpkaaaW.PrintMore
attribute [local go_sem] max2_int min2_int max_two min_two max_three min_three max_four min_four

def wfS (x : S46) : Prop := (Lit.int .u32 x.f0).wf = true ∧ (Lit.int .i64 x.f1).wf = true ∧ (Lit.int .i64 x.f2).wf = true
def vS (x : S46) : Value := .agg #[.int .u32 x.f0, .int .i64 x.f1, .int .i64 x.f2]
theorem vS_inj {x y : S46} (h : vS x = vS y) : x = y := by
  obtain ⟨a, b, c⟩ := x
  obtain ⟨a', b', c'⟩ := y
  simp only [vS] at h
  injection h with h
  simp at h
  obtain ⟨rfl, rfl, rfl⟩ := h
  rfl
/-- a suspect as the map's key reads -/
noncomputable def kf (x : S46) : Lit := (keyOf Try.prog 46 (vS x)).getD (.bool false)
theorem kf_key {x : S46} (h : wfS x) : keyOf Try.prog 46 (vS x) = some (kf x) := by
  obtain ⟨kl, hk⟩ := key46 x.f0 x.f1 x.f2 h.1 h.2.1 h.2.2
  have hk2 : keyOf Try.prog 46 (vS x) = some kl := hk
  unfold kf
  rw [hk2]
  rfl
set_option maxRecDepth 100000 in
theorem kf_inj {x y : S46} (hx : wfS x) (hy : wfS y) (h : kf x = kf y) : x = y :=
  vS_inj (law46.inj (kf_key hx) (by rw [kf_key hy, h]))
open Classical in
/-- the map of suspects: 1 at those of S, 0 elsewhere -/
def ToldE (S : S46 → Prop) (D : DataW Unit) : Prop := ∀ x, wfS x → D.atKey (kf x) (.lit (.int .i64 0)) = .lit (.int .i64 (if S x then 1 else 0))
theorem ToldE.in {S : S46 → Prop} {D : DataW Unit} (h : ToldE S D) {x : S46} {c : Int} (hx : wfS x) (hat : D.atKey (kf x) (.lit (.int .i64 0)) = .lit (.int .i64 c)) (hs : S x) : c = 1 := by
  rw [h x hx, if_pos hs] at hat
  injection hat with hat
  injection hat with _ hat
  exact hat.symm
theorem ToldE.out {S : S46 → Prop} {D : DataW Unit} (h : ToldE S D) {x : S46} {c : Int} (hx : wfS x) (hat : D.atKey (kf x) (.lit (.int .i64 0)) = .lit (.int .i64 c)) (hs : ¬ S x) : c = 0 := by
  rw [h x hx, if_neg hs] at hat
  injection hat with hat
  injection hat with _ hat
  exact hat.symm
set_option maxRecDepth 100000 in
theorem ToldE.put {S S' : S46 → Prop} {D : DataW Unit} (h : ToldE S D) (hD : IsMap D) {x : S46} (hx : wfS x) (b : Bool) (h1 : S' x ↔ b = true) (h2 : ∀ y, y ≠ x → (S' y ↔ S y)) :
    ToldE S' (D.put (kf x) (.lit (.int .i64 (if b then 1 else 0)))) := by
  intro y hy
  by_cases he : y = x
  · subst he
    rw [atKey_put_same hD (law46.key (kf_key hx))]
    cases b
    · rw [if_neg (show ¬ S' y by rw [h1]; simp)]; simp
    · rw [if_pos (show S' y by rw [h1])]; simp
  · rw [atKey_put_other (fun e => he (kf_inj hy hx e)), h y hy]
    congr 3
    exact propext (h2 y he).symm
def SeenE (l : List S46) (n : Nat) (x : S46) : Prop := ∃ j : Nat, j < n ∧ rd_T46 l j = x
def LeftE (l' : List S46) (n : Nat) (x : S46) : Prop := ∃ j : Nat, n ≤ j ∧ j < l'.length ∧ rd_T46 l' j = x
theorem ToldE.start (l : List S46) : ToldE (SeenE l 0) (.map []) := by
  intro x _
  rw [if_neg (fun ⟨j, hj, _⟩ => absurd hj (Nat.not_lt_zero _))]
  rfl
theorem ToldE.tell {l : List S46} {n : Nat} {D : DataW Unit} (h : ToldE (SeenE l n) D) (hD : IsMap D) (hx : wfS (rd_T46 l n)) : ToldE (SeenE l (n + 1)) (D.put (kf (rd_T46 l n)) (.lit (.int .i64 1))) :=
  h.put hD hx true ⟨fun _ => rfl, fun _ => ⟨n, by omega, rfl⟩⟩ fun y hy => ⟨fun ⟨j, hj, he⟩ => ⟨j, by
    rcases Nat.lt_or_ge j n with h1 | h1
    · exact h1
    · obtain rfl : j = n := by omega
      exact absurd he.symm hy, he⟩, fun ⟨j, hj, he⟩ => ⟨j, by omega, he⟩⟩
theorem ToldE.strike {l' : List S46} {n : Nat} {D : DataW Unit} (h : ToldE (LeftE l' n) D) (hD : IsMap D) (hx : wfS (rd_T46 l' n)) (hd : ¬ LeftE l' (n + 1) (rd_T46 l' n)) : ToldE (LeftE l' (n + 1)) (D.put (kf (rd_T46 l' n)) (.lit (.int .i64 0))) :=
  h.put hD hx false ⟨fun hl => absurd hl hd, fun hf => by cases hf⟩ fun y hy => ⟨fun ⟨j, hj, hl, he⟩ => ⟨j, by omega, hl, he⟩, fun ⟨j, hj, hl, he⟩ => ⟨j, by
    rcases Nat.lt_or_ge n j with h1 | h1
    · exact h1
    · obtain rfl : j = n := by omega
      exact absurd he.symm hy, hl, he⟩⟩
theorem left_of_perm {l l' : List S46} (hp : l'.Perm l) (x : S46) : SeenE l l.length x ↔ LeftE l' 0 x := by
  have hm : ∀ (k : List S46), (∃ j : Nat, j < k.length ∧ rd_T46 k j = x) ↔ x ∈ k := by
    intro k
    constructor
    · rintro ⟨j, hj, he⟩
      rw [rd_mem k j hj] at he
      rw [← he]; exact List.getElem_mem hj
    · intro hx
      obtain ⟨j, hj, he⟩ := List.getElem_of_mem hx
      exact ⟨j, hj, by rw [rd_mem k j hj]; exact he⟩
  constructor
  · intro h
    obtain ⟨j, hj, he⟩ := (hm l').mpr (hp.symm.subset ((hm l).mp h))
    exact ⟨j, Nat.zero_le _, hj, he⟩
  · rintro ⟨j, _, hj, he⟩
    exact (hm l).mpr (hp.subset ((hm l').mp ⟨j, hj, he⟩))
end Go.Proofs.Ythpnooookkpkaaa.F
