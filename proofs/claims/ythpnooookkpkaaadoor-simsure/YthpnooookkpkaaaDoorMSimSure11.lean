/- Texts of this session for the claim of SimSure: functions of the program as plain Lean functions, that the machine's calls come to them, and plain facts of these. -/
import Derived.Test.YthpnooookkpkaaaDoorMSimSure7
import Derived.Test.YthpnooookkpkaaaDoorMSimSure10
import Derived.OpenShut
namespace Go.Proofs.YthpnooookkpkaaaDoor.F
open Go.ChangeShapes Go.WideShapes Go.RowKit Go.Proofs.YthpnooookkpkaaaDoorW.PrintWords Go.Proofs.YthpnooookkpkaaaDoorW.PrintLast Go.Proofs.YthpnooookkpkaaaDoorW.PrintMore
theorem cs3 : Tryd.prog.cellsOf 3 = 1 := by kernel_rfl
theorem cs5 : Tryd.prog.cellsOf 5 = 1 := by kernel_rfl
theorem cs22 : Tryd.prog.cellsOf 22 = 1 := by kernel_rfl
theorem cs23 : Tryd.prog.cellsOf 23 = 1 := by kernel_rfl
theorem cs24 : Tryd.prog.cellsOf 24 = 1 := by kernel_rfl
theorem cs27 : Tryd.prog.cellsOf 27 = 1 := by kernel_rfl
theorem cs28 : Tryd.prog.cellsOf 28 = 1 := by kernel_rfl
theorem cs44 : Tryd.prog.cellsOf 44 = 1 := by kernel_rfl
theorem cs4 : Tryd.prog.cellsOf 4 = 1 := by kernel_rfl
theorem cs71 : Tryd.prog.cellsOf 71 = 2 := by kernel_rfl
theorem cs84 : Tryd.prog.cellsOf 84 = 2 := by kernel_rfl
theorem cs26 : Tryd.prog.cellsOf 26 = 6 := by kernel_rfl
theorem cs30 : Tryd.prog.cellsOf 30 = 3 := by kernel_rfl
section
variable {H : Type} {enc : TypeId × Value → H} {w : World} {base : Nat} {spare : Nat → Bool} {held : Bool}
theorem open_u32s {fuel : Nat} {cs : List Value} {x : DataW H × List MemPlace} (h : DataW.trod enc Tryd.prog w base spare held fuel 24 cs = some x) :
    ∃ (A : Option Addr) (c : Nat) (l : List Int), cs = [.slice A l.length c] ∧ l.length ≤ c ∧ Kd.C (Kd.int .u32) w A l.length l ∧ ∀ p ∈ l, 0 ≤ p ∧ p < 4294967296 :=
  C_of_slice (Kd.int .u32) (fun p => 0 ≤ p ∧ p < 4294967296) 0 Tryd.underlying24 cs44 h (fun n cs y hl hy => by
    obtain ⟨b, rfl, _, hw⟩ := DataW.trod_int Tryd.underlying44 hy
    have hb := bounds_u32 hw
    exact ⟨b, rfl, by omega, by omega⟩)
theorem open_u8s {fuel : Nat} {cs : List Value} {x : DataW H × List MemPlace} (h : DataW.trod enc Tryd.prog w base spare held fuel 27 cs = some x) :
    ∃ (A : Option Addr) (c : Nat) (l : List Int), cs = [.slice A l.length c] ∧ l.length ≤ c ∧ Kd.C (Kd.int .u8) w A l.length l ∧ ∀ p ∈ l, 0 ≤ p ∧ p < 256 :=
  C_of_slice (Kd.int .u8) (fun p => 0 ≤ p ∧ p < 256) 0 Tryd.underlying27 cs5 h (fun n cs y hl hy => by
    obtain ⟨b, rfl, _, hw⟩ := DataW.trod_int Tryd.underlying5 hy
    have hb := bounds_u8 hw
    exact ⟨b, rfl, by omega, by omega⟩)
theorem open_bools {fuel : Nat} {cs : List Value} {x : DataW H × List MemPlace} (h : DataW.trod enc Tryd.prog w base spare held fuel 31 cs = some x) :
    ∃ (A : Option Addr) (c : Nat) (l : List Bool), cs = [.slice A l.length c] ∧ l.length ≤ c ∧ Kd.C Kd.bool w A l.length l ∧ ∀ p ∈ l, True :=
  C_of_slice Kd.bool (fun _ => True) false Tryd.underlying31 cs4 h (fun n cs y hl hy => by
    obtain ⟨b, rfl, _⟩ := DataW.trod_bool Tryd.underlying4 hy
    exact ⟨b, rfl, trivial⟩)
theorem open_rows {fuel : Nat} {cs : List Value} {x : DataW H × List MemPlace} (h : DataW.trod enc Tryd.prog w base spare held fuel 28 cs = some x) :
    ∃ (A : Option Addr) (c : Nat) (l : List (List Int)), cs = [.slice A l.length c] ∧ l.length ≤ c ∧ Kd.C (Kd.slice 5 (Kd.int .u8)) w A l.length l ∧ ∀ p ∈ l, p.length ≤ 9223372036854775807 ∧ ∀ q ∈ p, 0 ≤ q ∧ q < 256 :=
  C_of_slice (Kd.slice 5 (Kd.int .u8)) (fun p => p.length ≤ 9223372036854775807 ∧ ∀ q ∈ p, 0 ≤ q ∧ q < 256) [] Tryd.underlying28 cs27 h (fun n cs y hl hy => by
    obtain ⟨A, c, l, rfl, h1, h2, h3⟩ := open_u8s hy
    exact ⟨l, ⟨A, c, rfl, h1, h2⟩, Kd.C_max h2, h3⟩)
theorem open_latches {fuel : Nat} {cs : List Value} {x : DataW H × List MemPlace} (h : DataW.trod enc Tryd.prog w base spare held fuel 22 cs = some x) :
    ∃ (A : Option Addr) (c : Nat) (l : List S71), cs = [.slice A l.length c] ∧ l.length ≤ c ∧ Kd.C k71 w A l.length l ∧ ∀ p ∈ l, 0 ≤ p.f0 ∧ p.f0 < 4294967296 ∧ 0 ≤ p.f1 ∧ p.f1 < 256 :=
  C_of_slice k71 (fun p => 0 ≤ p.f0 ∧ p.f0 < 4294967296 ∧ 0 ≤ p.f1 ∧ p.f1 < 256) z71 Tryd.underlying22 cs71 h (fun n cs y hl hy => by
    have hl2 : cs.length = 2 := hl
    obtain ⟨v0, n0, y0, e0, h0⟩ := field_of Tryd.underlying71 hy hl2 0 _ rfl rfl cs44
    obtain ⟨v1, n1, y1, e1, h1⟩ := field_of Tryd.underlying71 hy hl2 1 _ rfl rfl cs5
    obtain ⟨b0, g0, _, w0⟩ := DataW.trod_int Tryd.underlying44 h0
    obtain ⟨b1, g1, _, w1⟩ := DataW.trod_int Tryd.underlying5 h1
    simp only [List.cons.injEq, and_true] at g0 g1
    subst g0 g1
    obtain rfl : cs = [.int .u32 b0, .int .u8 b1] := by
      match cs, hl2 with
      | [u0, u1], _ =>
        simp only [List.getElem?_cons_zero, List.getElem?_cons_succ, Option.some.injEq] at e0 e1
        rw [e0, e1]
    have q0 := bounds_u32 w0
    have q1 := bounds_u8 w1
    exact ⟨⟨b0, b1⟩, k71_mk w ⟨b0, b1⟩, q0.1, by simp only; omega, q1.1, by simp only; omega⟩)
theorem open_gates {fuel : Nat} {cs : List Value} {x : DataW H × List MemPlace} (h : DataW.trod enc Tryd.prog w base spare held fuel 23 cs = some x) :
    ∃ (A : Option Addr) (c : Nat) (l : List S84), cs = [.slice A l.length c] ∧ l.length ≤ c ∧ Kd.C k84 w A l.length l ∧ ∀ p ∈ l, 0 ≤ p.f0 ∧ p.f0 < 4294967296 ∧ 0 ≤ p.f1 ∧ p.f1 < 4294967296 :=
  C_of_slice k84 (fun p => 0 ≤ p.f0 ∧ p.f0 < 4294967296 ∧ 0 ≤ p.f1 ∧ p.f1 < 4294967296) z84 Tryd.underlying23 cs84 h (fun n cs y hl hy => by
    have hl2 : cs.length = 2 := hl
    obtain ⟨v0, n0, y0, e0, h0⟩ := field_of Tryd.underlying84 hy hl2 0 _ rfl rfl cs44
    obtain ⟨v1, n1, y1, e1, h1⟩ := field_of Tryd.underlying84 hy hl2 1 _ rfl rfl cs44
    obtain ⟨b0, g0, _, w0⟩ := DataW.trod_int Tryd.underlying44 h0
    obtain ⟨b1, g1, _, w1⟩ := DataW.trod_int Tryd.underlying44 h1
    simp only [List.cons.injEq, and_true] at g0 g1
    subst g0 g1
    obtain rfl : cs = [.int .u32 b0, .int .u32 b1] := by
      match cs, hl2 with
      | [u0, u1], _ =>
        simp only [List.getElem?_cons_zero, List.getElem?_cons_succ, Option.some.injEq] at e0 e1
        rw [e0, e1]
    have q0 := bounds_u32 w0
    have q1 := bounds_u32 w1
    exact ⟨⟨b0, b1⟩, k84_mk w ⟨b0, b1⟩, q0.1, by simp only; omega, q1.1, by simp only; omega⟩)
/-- a circuit that came in -/
theorem open_circ {fuel : Nat} {cs : List Value} {x : DataW H × List MemPlace} (h : DataW.trod enc Tryd.prog w base spare held fuel 26 cs = some x) (hl : cs.length = 6) :
    ∃ c : Circ, cs = c.cells.toList ∧ c.ok w ∧ CK c := by
  obtain ⟨v0, n0, y0, e0, h0⟩ := field_of Tryd.underlying26 h hl 0 _ rfl rfl cs3
  obtain ⟨v1, n1, y1, e1, h1⟩ := field_of Tryd.underlying26 h hl 1 _ rfl rfl cs22
  obtain ⟨v2, n2, y2, e2, h2⟩ := field_of Tryd.underlying26 h hl 2 _ rfl rfl cs23
  obtain ⟨v3, n3, y3, e3, h3⟩ := field_of Tryd.underlying26 h hl 3 _ rfl rfl cs24
  obtain ⟨v4, n4, y4, e4, h4⟩ := field_of Tryd.underlying26 h hl 4 _ rfl rfl cs24
  obtain ⟨v5, n5, y5, e5, h5⟩ := field_of Tryd.underlying26 h hl 5 _ rfl rfl cs24
  obtain ⟨n, g0, _, w0⟩ := DataW.trod_int Tryd.underlying3 h0
  obtain ⟨A1, c1, l1, g1, k1, r1, q1⟩ := open_latches h1
  obtain ⟨A2, c2, l2, g2, k2, r2, q2⟩ := open_gates h2
  obtain ⟨A3, c3, l3, g3, k3, r3, q3⟩ := open_u32s h3
  obtain ⟨A4, c4, l4, g4, k4, r4, q4⟩ := open_u32s h4
  obtain ⟨A5, c5, l5, g5, k5, r5, q5⟩ := open_u32s h5
  simp only [List.cons.injEq, and_true] at g0 g1 g2 g3 g4 g5
  subst g0 g1 g2 g3 g4 g5
  refine ⟨⟨n, A1, c1, l1, A2, c2, l2, A3, c3, l3, A4, c4, l4, A5, c5, l5⟩, ?_, ⟨r1, k1, r2, k2, r3, k3, r4, k4, r5, k5⟩, ⟨bounds_i64 w0, Kd.C_max r1, Kd.C_max r2, Kd.C_max r3, Kd.C_max r4, Kd.C_max r5, q1, q2, q3, q4, q5⟩⟩
  match cs, hl with
  | [u0, u1, u2, u3, u4, u5], _ =>
    simp only [List.getElem?_cons_zero, List.getElem?_cons_succ, Option.some.injEq] at e0 e1 e2 e3 e4 e5
    rw [e0, e1, e2, e3, e4, e5]
    rfl
/-- a trace that came in -/
theorem open_trc {fuel : Nat} {cs : List Value} {x : DataW H × List MemPlace} (h : DataW.trod enc Tryd.prog w base spare held fuel 30 cs = some x) (hl : cs.length = 3) :
    ∃ t : Trc, cs = t.cells.toList ∧ t.ok w ∧ TK t ∧ -9223372036854775808 ≤ t.bad ∧ t.bad ≤ 9223372036854775807 := by
  obtain ⟨v0, n0, y0, e0, h0⟩ := field_of Tryd.underlying30 h hl 0 _ rfl rfl cs3
  obtain ⟨v1, n1, y1, e1, h1⟩ := field_of Tryd.underlying30 h hl 1 _ rfl rfl cs27
  obtain ⟨v2, n2, y2, e2, h2⟩ := field_of Tryd.underlying30 h hl 2 _ rfl rfl cs28
  obtain ⟨b, g0, _, w0⟩ := DataW.trod_int Tryd.underlying3 h0
  obtain ⟨A1, c1, l1, g1, k1, r1, q1⟩ := open_u8s h1
  obtain ⟨A2, c2, l2, g2, k2, r2, q2⟩ := open_rows h2
  simp only [List.cons.injEq, and_true] at g0 g1 g2
  subst g0 g1 g2
  refine ⟨⟨b, A1, c1, l1, A2, c2, l2⟩, ?_, ⟨r1, k1, r2, k2⟩, ⟨Kd.C_max r1, Kd.C_max r2, fun l hl => (q2 l hl).1, q1, fun l hl => (q2 l hl).2⟩, bounds_i64 w0⟩
  match cs, hl with
  | [u0, u1, u2], _ =>
    simp only [List.getElem?_cons_zero, List.getElem?_cons_succ, Option.some.injEq] at e0 e1 e2
    rw [e0, e1, e2]
    rfl
end
theorem SimSure_w (c : Circ) (t : Trc) (A : Option Addr) (bl : List Bool) (cap : Nat) (w : World) (hc : c.ok w) (hck : CK c) (ht : t.ok w) (htk : TK t) (hcap : bl.length ≤ cap) (hbl : Kd.C Kd.bool w A bl.length bl) (_ : ∀ p ∈ bl, True) :
    Calls Tryd.prog 3 #[.agg c.cells, .agg t.cells, .slice A bl.length cap] w fun e w' => e = .returned (.bool true) ∧ Below w.heap.size w w' := SimSure_c c t A cap bl w hc ht hcap hbl hck htk
end Go.Proofs.YthpnooookkpkaaaDoor.F
